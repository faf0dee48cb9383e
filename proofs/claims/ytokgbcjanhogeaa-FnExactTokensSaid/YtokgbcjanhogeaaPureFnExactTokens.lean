/- FnExactTokens: for every text the program's Tokens and the reference's come to the same, and what comes out shares no memory with another call's. No condition. -/
import Derived.Test.YtokgbcjanhogeaaMTokFnExactTokens
namespace Go.Proofs.Ytokgbcjanhogeaa.Pure
open Go.RowKit Go.Proofs.Ytokgbcjanhogeaa.PFnExactTokens Go.Proofs.Ytokgbcjanhogeaa.MSetFnExactTokens Go.Proofs.Ytokgbcjanhogeaa.MTokFnExactTokens Go.Proofs.YtokgbcjanhogeaaPl Go.Proofs.YtokgbcjanhogeaaLp Go.Proofs.YtokgbcjanhogeaaW.PrintWords Go.Proofs.YtokgbcjanhogeaaW.PrintLast
set_option linter.unusedVariables false
set_option linter.unusedSimpArgs false
/-- A number's mark is a text. -/
theorem markText_loop : ∀ (n : Nat) (x : Int) (s : ByteArray), x.toNat ≤ n → x < 4611686018427387904 → s.size + x.toNat ≤ 4611686018427387904 + 100 → ∃ k t, laws_markText.l0 k x s = some t := by
  intro n
  induction n with
  | zero =>
    intro x s hx _ hs
    refine ⟨1, (⟨#[109]⟩ : ByteArray) ++ s, ?_⟩
    have h0 : ¬ x > 0 := by omega
    simp only [laws_markText.l0, if_neg h0]
    rw [if_pos (by omega)]
  | succ n ih =>
    intro x s hx hlt hs
    by_cases h0 : x > 0
    · have e1 : Int.tdiv x 10 = x / 10 := Int.tdiv_eq_ediv_of_nonneg (by omega)
      have e2 : wrap64 (Int.tdiv x 10) = x / 10 := by rw [e1]; exact IntWalk.wrap64_in _ ⟨by omega, by omega⟩
      obtain ⟨k, t, ht⟩ := ih (x / 10) ((strOfNums ([(wrap64 (48 + (Int.tmod x 10))) % 256] : List Int)) ++ s) (by omega) (by omega) (by
        have : (strOfNums ([(wrap64 (48 + (Int.tmod x 10))) % 256] : List Int)).size = 1 := rfl
        rw [ByteArray.size_append, this]
        omega)
      refine ⟨k + 1, t, ?_⟩
      simp only [laws_markText.l0, if_pos h0, Option.bind_some]
      have : (strOfNums ([(wrap64 (48 + (Int.tmod x 10))) % 256] : List Int)).size = 1 := rfl
      rw [if_pos (by rw [this]; omega), e2]
      exact ht
    · refine ⟨1, (⟨#[109]⟩ : ByteArray) ++ s, ?_⟩
      simp only [laws_markText.l0, if_neg h0]
      rw [if_pos (by omega)]
theorem markText_some (x : Int) (h : x < 4611686018427387904) : ∃ k t, laws_markText.f k x = some t := by
  by_cases h0 : x ≤ 0
  · exact ⟨0, _, by unfold laws_markText.f; rw [if_pos h0]⟩
  · obtain ⟨k, t, ht⟩ := markText_loop x.toNat x ⟨#[]⟩ (Nat.le_refl _) h (by show 0 + _ ≤ _; omega)
    exact ⟨k, t, by unfold laws_markText.f; rw [if_neg h0]; exact ht⟩

theorem eqToken_same (x : S29) : Ev (fun k => laws_eqToken.f x.f0 x.f1 x.f0 x.f1) true := by
  unfold laws_eqToken.f
  simp only [if_true]
  exact Ev.now _
theorem eqTokenS_same (l : List S29) (hl : l.length ≤ 4611686018427387904) : Ev (fun k => laws_eqTokenS.f k l l) true := by
  unfold laws_eqTokenS.f
  simp only [if_true]
  refine scan (fun k i => laws_eqTokenS.l0 k l l i) l.length (fun _ => true) (by omega) (Ev.done (fun k => by simp only [laws_eqTokenS.l0]; rw [if_neg (by omega)])) (fun i hi e => ?_) 0 (by omega)
  refine Ev.step (fun k => by simp only [laws_eqTokenS.l0]; rw [if_pos (by omega), if_pos (by omega), if_pos (by omega)]) ?_
  refine Ev.bind (eqToken_same _) ?_
  exact Ev.same e (fun k => if_pos rfl)
theorem marks_exist : ∃ mk : Int → ByteArray, ∀ x : Int, x < 4611686018427387904 → Ev (fun k => laws_markText.f k x) (mk x) := by
  refine Classical.axiomOfChoice (r := fun (x : Int) (t : ByteArray) => x < 4611686018427387904 → Ev (fun k => laws_markText.f k x) t) (fun x => ?_)
  by_cases h : x < 4611686018427387904
  · obtain ⟨k, t, ht⟩ := markText_some x h
    exact ⟨t, fun _ => Ev.of (fun k => laws_markText.mono x k) ht⟩
  · exact ⟨ByteArray.empty, fun h2 => absurd h2 h⟩
/-- The marks from 1 on. -/
def marked (mk : Int → ByteArray) (n : Nat) : List S29 := (List.range n).map (fun i : Nat => ⟨1 + 2 * (i : Int), mk (2 + 2 * (i : Int))⟩)
theorem mark_ok (mk : Int → ByteArray) (hmk : ∀ x : Int, x < 4611686018427387904 → Ev (fun k => laws_markText.f k x) (mk x)) (l : List S29) (hl : l.length ≤ 1048576) : Ev (fun k => laws_markTokenS.f k l 1) (1 + 2 * (l.length : Int), marked mk l.length) := by
  unfold laws_markTokenS.f
  have main : ∀ (d i : Nat) (xs : List S29), i + d = l.length → xs.length = l.length → xs.take i = (List.range i).map (fun i : Nat => (⟨1 + 2 * (i : Int), mk (2 + 2 * (i : Int))⟩ : S29)) → Ev (fun k => laws_markTokenS.l0 k xs (1 + 2 * (i : Int)) (i : Int)) (1 + 2 * (l.length : Int), marked mk l.length) := by
    intro d
    induction d with
    | zero =>
      intro i xs h hx ht
      have hi : i = l.length := by omega
      have e : xs = marked mk l.length := by unfold marked; rw [← hi, ← ht, hi, ← hx, List.take_length]
      subst e
      refine Ev.done (fun k => ?_)
      simp only [laws_markTokenS.l0]
      rw [if_neg (by omega), hi]
    | succ d ih =>
      intro i xs h hx ht
      have hin : i < xs.length := by omega
      have e := ih (i + 1) (xs.set i ⟨1 + 2 * (i : Int), mk (2 + 2 * (i : Int))⟩) (by omega) (by simp; exact hx) (by rw [set_take _ _ _ (by omega), ht, List.range_succ, List.map_append]; rfl)
      have c1 : (i : Int) < (xs.length : Int) := by omega
      have c0 : (0 : Int) ≤ (i : Int) := by omega
      have n1 : (1 + 2 * (i : Int)) + 1 = 2 + 2 * (i : Int) := by omega
      have n2 : (2 + 2 * (i : Int)) + 1 = 1 + 2 * ((i + 1 : Nat) : Int) := by omega
      have b2 : (2 + 2 * (i : Int)) < 4611686018427387904 := by omega
      have e1 : wrap64 (1 + 2 * (i : Int) + 1) = 2 + 2 * (i : Int) := by rw [n1]; exact w64 (by omega) (by omega)
      have e2 : wrap64 (2 + 2 * (i : Int) + 1) = 1 + 2 * ((i + 1 : Nat) : Int) := by clear e1; rw [n2]; exact w64 (by omega) (by omega)
      have e3 : wrap64 ((i : Int) + 1) = ((i + 1 : Nat) : Int) := by clear e1 e2; exact w1 (n := l.length) (by omega) (by omega)
      refine Ev.step (f := fun k => (laws_markText.f k (2 + 2 * (i : Int))).bind fun t => laws_markTokenS.l0 k (xs.set i ⟨1 + 2 * (i : Int), t⟩) (1 + 2 * ((i + 1 : Nat) : Int)) ((i + 1 : Nat) : Int)) (fun k => ?_) (Ev.bind (hmk _ b2) e)
      simp only [laws_markTokenS.l0, if_pos c1, if_pos c0, bsm, e1, e2, e3, tn]
      congr 1
      funext t
      have hrd : ∀ y : S29, (rd_T29 (xs.set i y) (i : Int)) = y := by
        intro y
        unfold rd_T29
        rw [tn]
        simp [List.getD, hin]
      rw [hrd, List.set_set]
  exact main l.length 0 l (by omega) rfl (by simp)
theorem held_ok (mk : Int → ByteArray) (hmk : ∀ x : Int, x < 4611686018427387904 → Ev (fun k => laws_markText.f k x) (mk x)) (n : Nat) (hn : n ≤ 1048576) : Ev (fun k => laws_heldTokenS.f k (marked mk n) 1) (1 + 2 * (n : Int)) := by
  unfold laws_heldTokenS.f
  have hlen : (marked mk n).length = n := by simp [marked]
  have main : ∀ (d i : Nat), i + d = n → Ev (fun k => laws_heldTokenS.l0 k (marked mk n) (1 + 2 * (i : Int)) (i : Int)) (1 + 2 * (n : Int)) := by
    intro d
    induction d with
    | zero =>
      intro i h
      have hi : i = n := by omega
      subst hi
      refine Ev.done (fun k => ?_)
      simp only [laws_heldTokenS.l0]
      rw [if_neg (by omega)]
    | succ d ih =>
      intro i h
      have e := ih (i + 1) (by omega)
      have hrd : rd_T29 (marked mk n) (i : Int) = ⟨1 + 2 * (i : Int), mk (2 + 2 * (i : Int))⟩ := by
        unfold rd_T29
        rw [tn]
        simp [List.getD, marked, show i < n by omega]
      have c1 : (i : Int) < ((marked mk n).length : Int) := by omega
      have c0 : (0 : Int) ≤ (i : Int) := by omega
      have n1 : (1 + 2 * (i : Int)) + 1 = 2 + 2 * (i : Int) := by omega
      have n2 : (2 + 2 * (i : Int)) + 1 = 1 + 2 * ((i + 1 : Nat) : Int) := by omega
      have b2 : (2 + 2 * (i : Int)) < 4611686018427387904 := by omega
      have e1 : wrap64 (1 + 2 * (i : Int) + 1) = 2 + 2 * (i : Int) := by rw [n1]; exact w64 (by omega) (by omega)
      have e2 : wrap64 (2 + 2 * (i : Int) + 1) = 1 + 2 * ((i + 1 : Nat) : Int) := by clear e1; rw [n2]; exact w64 (by omega) (by omega)
      have e3 : wrap64 ((i : Int) + 1) = ((i + 1 : Nat) : Int) := by clear e1 e2; exact w1 (n := n) (by omega) (by omega)
      refine Ev.step (f := fun k => (laws_markText.f k (2 + 2 * (i : Int))).bind fun t => if (mk (2 + 2 * (i : Int))).toList = t.toList then laws_heldTokenS.l0 k (marked mk n) (1 + 2 * ((i + 1 : Nat) : Int)) ((i + 1 : Nat) : Int) else some (-1)) (fun k => ?_) (Ev.bind (hmk _ b2) ?_)
      · simp only [laws_heldTokenS.l0, if_pos c1, if_pos c0, hrd, if_true, e1, e2, e3]
      · simp only [if_true]
        exact e
  exact main n 0 (by omega)

theorem FnExactTokens : laws_FnExactTokens.Pure := by
  intro s hs
  refine Ev.rounds ?_
  unfold laws_FnExactTokens.f
  by_cases hbig : (s.size : Int) > 1048576
  · simp only [if_pos hbig]; exact Ev.now _
  simp only [if_neg hbig]
  obtain ⟨r, ri, rs, rl⟩ := tokens_ok s
  obtain ⟨mk, hmk⟩ := marks_exist
  have he := eqTokenS_same r.1 (by omega)
  have hd := held_ok mk hmk r.1.length (by omega)
  refine Ev.bind rs (Ev.bind ri (Ev.bind he ?_))
  simp only [if_true]
  have n0 : ¬ (1 + 2 * (r.1.length : Int)) < 0 := by omega
  refine Ev.step (fun k => by simp only [bne_self_eq_false, laws_FnExactTokens.j0, Bool.false_eq_true, if_false]; rfl) ?_
  refine Ev.bind (mark_ok mk hmk r.1 (by omega)) (Ev.bind hd ?_)
  simp only [if_neg n0, if_true]
  refine Ev.bind ri (Ev.bind he ?_)
  simp only [if_true]
  refine Ev.step (fun k => by simp only [bne_self_eq_false, laws_FnExactTokens.j1, Bool.false_eq_true, if_false]; rfl) ?_
  refine Ev.bind hd ?_
  simp only [if_neg n0, if_true]
  exact Ev.now _
end Go.Proofs.Ytokgbcjanhogeaa.Pure
