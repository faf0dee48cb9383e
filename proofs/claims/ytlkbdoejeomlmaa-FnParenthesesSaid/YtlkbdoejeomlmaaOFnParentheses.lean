/- The program's OpsOk and the reference's come to the same on plain lists. No condition but that the list has at most 1048576 places. -/
import Derived.Test.YtlkbdoejeomlmaaPFnParenthesesx7
import Derived.Test.YtlkbdoejeomlmaaPl
namespace Go.Proofs.Ytlkbdoejeomlmaa.OFnParentheses
open Go.RowKit Go.Proofs.Ytlkbdoejeomlmaa.PFnParentheses Go.Proofs.YtlkbdoejeomlmaaPl Go.Proofs.YtlkbdoejeomlmaaW.PrintWords Go.Proofs.YtlkbdoejeomlmaaW.PrintLast

set_option linter.unusedVariables false
def S : ByteArray := ⟨#[43, 45, 42, 94, 60, 62, 61, 44]⟩
def at8 (s : ByteArray) (q : Nat) : Bool := s.toList == (S.extract q (q + 1)).toList
def anyUp (p : Nat → Bool) (i : Nat) : Nat → Bool
  | 0 => false
  | d + 1 => p i || anyUp p (i + 1) d
def signIn (s : ByteArray) : Bool := anyUp (at8 s) 0 8
def headOk (x : S128) : Bool := signIn x.f0 && decide (1 ≤ x.f1 ∧ x.f1 ≤ 9)
def pairOk (y x : S128) : Bool := !(decide (y.f0.toList = x.f0.toList)) && !(decide (y.f1 = x.f1) && (y.f2 != x.f2))
def okAt (l : List S128) (i : Nat) : Bool := headOk (l.getD i z128) && allUp (fun k => pairOk (l.getD k z128) (l.getD i z128)) 0 i
def fin (l : List S128) : Bool := decide (1 ≤ (l.length : Int) ∧ (l.length : Int) ≤ 6)

theorem rdD (l : List S128) (i : Nat) : rd_T128 l (i : Int) = l.getD i z128 := by
  have h : (i : Int).toNat = i := by omega
  unfold rd_T128
  rw [h]
theorem within_ok (a b c : Int) : impl_within.f a b c = some (decide (b ≤ a ∧ a ≤ c)) := by
  unfold impl_within.f
  by_cases h : a ≥ b
  · rw [if_pos h]; simp [h]
  · rw [if_neg h]; simp; omega
theorem in_ok (a b c : Int) : spec_l01In.f a b c = some (decide (b ≤ a ∧ a ≤ c)) := by
  unfold spec_l01In.f
  by_cases h : a ≥ b
  · rw [if_pos h]; simp [h]
  · rw [if_neg h]; simp; omega

theorem sig_loop (l : List S128) (i : Nat) (hi : i < l.length) (hn : l.length ≤ 1048576) (r : Bool) (d : Nat) : ∀ (j : Nat) (b : Bool), j + d = 8 →
    Ev (fun k => spec_OpsOk.l1 k l S (i : Int) (b || anyUp (at8 (l.getD i z128).f0) j d) 8) r → Ev (fun k => spec_OpsOk.l1 k l S (i : Int) b (j : Int)) r := by
  induction d with
  | zero => intro j b h e; have : j = 8 := by omega
            subst this; simpa [anyUp] using e
  | succ d ih =>
    intro j b h e
    have hw : wrap64 ((j : Int) + 1) = ((j + 1 : Nat) : Int) := up64 (n := 9) (by omega) (by omega)
    have hS : (S.size : Int) = 8 := rfl
    cases b with
    | true =>
      refine Ev.step (fun k => by simp only [spec_OpsOk.l1]; rw [if_pos (by omega), if_pos trivial, hw]) (ih (j + 1) true (by omega) (by simpa using e))
    | false =>
      refine Ev.step (fun k => by simp only [spec_OpsOk.l1]; rw [if_pos (by omega), if_neg (by simp), if_pos (by omega), if_pos (by omega), if_pos (by omega), hw, if_pos (by omega), if_pos (by omega)]; rw [rdD]; rfl) (ih (j + 1) (at8 (l.getD i z128).f0 j) (by omega) (by simpa [anyUp] using e))

theorem pair_spec (l : List S128) (i : Nat) (hi : i < l.length) (hn : l.length ≤ 1048576) (r : Bool) (hnext : Ev (fun k => spec_OpsOk.l0 k l S (wrap64 ((i : Int) + 1))) r) :
    Ev (fun k => spec_OpsOk.l2 k l S (i : Int) 0) (allUp (fun k => pairOk (l.getD k z128) (l.getD i z128)) 0 i && r) := by
  have := allLoop (fun k j => spec_OpsOk.l2 k l S (i : Int) j) i (fun k => pairOk (l.getD k z128) (l.getD i z128)) r (by omega) (Ev.next hnext (fun k => by simp only [spec_OpsOk.l2]; rw [if_neg (by omega)]))
    (fun j hj hp => by
      refine Ev.done (fun k => ?_)
      simp only [spec_OpsOk.l2]
      rw [if_pos (by omega), if_pos (by omega), if_pos (by omega), if_pos (by omega), if_pos (by omega)]
      simp only [rdD]
      simp only [pairOk, Bool.and_eq_false_iff, Bool.not_eq_false', Bool.and_eq_true, decide_eq_true_eq] at hp
      by_cases h1 : (l.getD j z128).f0.toList = (l.getD i z128).f0.toList
      · rw [if_pos h1]
      · rw [if_neg h1]
        rcases hp with hp | ⟨hp, hq⟩
        · exact absurd hp h1
        · rw [if_pos hp, if_pos hq])
    (fun j q hj hp e => by
      refine Ev.next e (fun k => ?_)
      simp only [spec_OpsOk.l2]
      rw [if_pos (by omega), if_pos (by omega), if_pos (by omega), if_pos (by omega), if_pos (by omega)]
      simp only [rdD]
      simp only [pairOk, Bool.and_eq_true, Bool.not_eq_true', decide_eq_false_iff_not, Bool.and_eq_false_iff] at hp
      rw [if_neg hp.1]
      by_cases h2 : (l.getD j z128).f1 = (l.getD i z128).f1
      · rw [if_pos h2]
        rcases hp.2 with h3 | h3
        · exact absurd h2 h3
        · rw [if_neg (by rw [h3]; exact Bool.false_ne_true)]
      · rw [if_neg h2]) 0 (by omega)
  simpa using this

theorem spec_at (l : List S128) (i : Nat) (hi : i < l.length) (hn : l.length ≤ 1048576) (r : Bool) (hnext : Ev (fun k => spec_OpsOk.l0 k l S (wrap64 ((i : Int) + 1))) r) :
    Ev (fun k => spec_OpsOk.l0 k l S (i : Int)) (okAt l i && r) := by
  refine Ev.step (fun k => by simp only [spec_OpsOk.l0]; rw [if_pos (by omega)]; rfl) (sig_loop l i hi hn _ 8 0 false (by omega) ?_)
  have hS : ¬ ((8 : Int) < (S.size : Int)) := by decide
  show Ev (fun k => spec_OpsOk.l1 k l S (i : Int) (false || signIn (l.getD i z128).f0) 8) _
  rw [Bool.false_or]
  unfold okAt headOk
  by_cases hs : signIn (l.getD i z128).f0 = true
  · rw [hs]
    refine Ev.step (fun k => by simp only [spec_OpsOk.l1]; rw [if_neg hS, if_pos trivial, if_pos (by omega), if_pos (by omega), rdD, in_ok, Option.bind_some]) ?_
    by_cases hl : 1 ≤ (l.getD i z128).f1 ∧ (l.getD i z128).f1 ≤ 9
    · rw [decide_eq_true hl]
      refine Ev.step (fun k => by simp only [spec_OpsOk.j2]; rw [if_neg (by simp)]) ?_
      have := pair_spec l i hi hn r hnext
      simpa using this
    · rw [decide_eq_false hl]
      simp only [Bool.and_false, Bool.false_and]
      exact Ev.done (fun k => by simp only [spec_OpsOk.j2]; rw [if_pos (by simp)])
  · have hs' : signIn (l.getD i z128).f0 = false := by simpa using hs
    rw [hs']
    simp only [Bool.false_and]
    refine Ev.step (fun k => by simp only [spec_OpsOk.l1]; rw [if_neg hS, if_neg (by simp)]) ?_
    exact Ev.done (fun k => by simp only [spec_OpsOk.j2]; rw [if_pos trivial])

theorem spec_end (l : List S128) : Ev (fun k => spec_OpsOk.l0 k l S (l.length : Int)) (fin l) := by
  refine Ev.done (fun k => ?_)
  simp only [spec_OpsOk.l0]
  rw [if_neg (by omega), in_ok]
  rfl

def model (l : List S128) : Bool := allUp (okAt l) 0 l.length && fin l

theorem spec_all (l : List S128) (hn : l.length ≤ 1048576) : Ev (fun k => spec_OpsOk.f k l) (model l) := by
  have := scan (fun k i => spec_OpsOk.l0 k l S i) l.length (fun i => allUp (okAt l) i (l.length - i) && fin l) (by omega) (by simpa [allUp] using spec_end l) (fun i hi h => by
    have hd : l.length - i = (l.length - (i + 1)) + 1 := by omega
    show Ev _ (allUp (okAt l) i (l.length - i) && fin l)
    rw [hd, allUp, Bool.and_assoc]
    exact spec_at l i hi hn _ h) 0 (by omega)
  exact this

-- the program's
theorem sign_impl (s : ByteArray) : (if (s.size : Int) = 1 then (strings_Contains.f S s) else some false) = some (signIn s) := by
  by_cases h : s.size = 1
  · rw [if_pos (by omega)]
    unfold strings_Contains.f
    rw [if_pos h]
    obtain ⟨⟨m⟩⟩ := s
    obtain ⟨c, rfl⟩ : ∃ c, m = [c] := by
      match m, h with
      | [c], _ => exact ⟨c, rfl⟩
    have hall : ∀ c : UInt8, decide (0 ≤ Go.Lib.indexByte S.data.toList c) = signIn ⟨⟨[c]⟩⟩ := by
      intro c
      have e : ∀ q : Nat, at8 ⟨⟨[c]⟩⟩ q = ([c] == (S.extract q (q + 1)).data.toList) := by intro q; unfold at8; rw [toList_eq, toList_eq]
      have x0 : (S.extract 0 (0 + 1)).data.toList = [43] := by decide
      have x1 : (S.extract 1 (1 + 1)).data.toList = [45] := by decide
      have x2 : (S.extract 2 (2 + 1)).data.toList = [42] := by decide
      have x3 : (S.extract 3 (3 + 1)).data.toList = [94] := by decide
      have x4 : (S.extract 4 (4 + 1)).data.toList = [60] := by decide
      have x5 : (S.extract 5 (5 + 1)).data.toList = [62] := by decide
      have x6 : (S.extract 6 (6 + 1)).data.toList = [61] := by decide
      have x7 : (S.extract 7 (7 + 1)).data.toList = [44] := by decide
      have hs : signIn ⟨⟨[c]⟩⟩ = (c == 43 || (c == 45 || (c == 42 || (c == 94 || (c == 60 || (c == 62 || (c == 61 || (c == 44 || false)))))))) := by
        simp only [signIn, anyUp, e]
        rw [x0, x1, x2, x3, x4, x5, x6, x7]
        simp
      rw [hs]
      clear hs e x0 x1 x2 x3 x4 x5 x6 x7
      have : ∀ c : Fin 256, decide (0 ≤ Go.Lib.indexByte S.data.toList (UInt8.ofNat c.val)) = (UInt8.ofNat c.val == 43 || (UInt8.ofNat c.val == 45 || (UInt8.ofNat c.val == 42 || (UInt8.ofNat c.val == 94 || (UInt8.ofNat c.val == 60 || (UInt8.ofNat c.val == 62 || (UInt8.ofNat c.val == 61 || (UInt8.ofNat c.val == 44 || false)))))))) := by decide +kernel
      have h2 := this ⟨c.toNat, c.toNat_lt⟩
      simpa using h2
    exact congrArg some (hall c)
  · rw [if_neg (by omega)]
    have : signIn s = false := by
      have e : ∀ q : Nat, q < 8 → at8 s q = false := by
        intro q hq
        unfold at8
        rw [toList_eq, toList_eq]
        have hl : (S.extract q (q + 1)).data.toList.length = 1 := by
          match q, hq with
          | 0, _ => decide
          | 1, _ => decide
          | 2, _ => decide
          | 3, _ => decide
          | 4, _ => decide
          | 5, _ => decide
          | 6, _ => decide
          | 7, _ => decide
        rw [beq_eq_false_iff_ne]
        intro he
        rw [← he] at hl
        exact h (by rw [← hl]; rw [Array.length_toList]; rfl)
      simp only [signIn, anyUp]
      rw [e 0 (by omega), e 1 (by omega), e 2 (by omega), e 3 (by omega), e 4 (by omega), e 5 (by omega), e 6 (by omega), e 7 (by omega)]
      rfl
    rw [this]

theorem pair_impl (l : List S128) (i : Nat) (hi : i < l.length) (hn : l.length ≤ 1048576) (r : Bool) (hnext : Ev (fun k => impl_OpsOk.l0 k l l (l.length : Int) (wrap64 ((i : Int) + 1))) r) :
    Ev (fun k => impl_OpsOk.l1 k l l (l.length : Int) (i : Int) (l.take i) ((l.take i).length : Int) 0 (l.getD i z128).f0 (l.getD i z128).f1 (l.getD i z128).f2) (allUp (fun k => pairOk (l.getD k z128) (l.getD i z128)) 0 i && r) := by
  have hlen : (l.take i).length = i := by simp; omega
  have hg : ∀ j, j < i → rd_T128 (l.take i) (j : Int) = l.getD j z128 := by
    intro j hj
    show (l.take i).getD j z128 = _
    simp [List.getD, hj]
  rw [hlen]
  have := allLoop (fun k j => impl_OpsOk.l1 k l l (l.length : Int) (i : Int) (l.take i) (i : Int) j (l.getD i z128).f0 (l.getD i z128).f1 (l.getD i z128).f2) i (fun k => pairOk (l.getD k z128) (l.getD i z128)) r (by omega) (Ev.next hnext (fun k => by simp only [impl_OpsOk.l1]; rw [if_neg (by omega)]))
    (fun j hj hp => by
      refine Ev.done (fun k => ?_)
      simp only [impl_OpsOk.l1]
      rw [if_pos (by omega), if_pos (by omega), if_pos (by omega), hg j hj]
      simp only [pairOk, Bool.and_eq_false_iff, Bool.not_eq_false', Bool.and_eq_true, decide_eq_true_eq] at hp
      by_cases h1 : (l.getD j z128).f0.toList = (l.getD i z128).f0.toList
      · rw [if_pos h1]
      · rw [if_neg h1]
        rcases hp with hp | ⟨hp, hq⟩
        · exact absurd hp h1
        · rw [if_pos hp, if_pos hq])
    (fun j q hj hp e => by
      refine Ev.next e (fun k => ?_)
      simp only [impl_OpsOk.l1]
      rw [if_pos (by omega), if_pos (by omega), if_pos (by omega), hg j hj]
      simp only [pairOk, Bool.and_eq_true, Bool.not_eq_true', decide_eq_false_iff_not, Bool.and_eq_false_iff] at hp
      rw [if_neg hp.1]
      by_cases h2 : (l.getD j z128).f1 = (l.getD i z128).f1
      · rw [if_pos h2]
        rcases hp.2 with h3 | h3
        · exact absurd h2 h3
        · rw [if_neg (by rw [h3]; exact Bool.false_ne_true)]
      · rw [if_neg h2]) 0 (by omega)
  simpa using this

theorem j1_impl (l : List S128) (i : Nat) (hi : i < l.length) (hn : l.length ≤ 1048576) (r : Bool) (b : Bool) (hnext : Ev (fun k => impl_OpsOk.l0 k l l (l.length : Int) (wrap64 ((i : Int) + 1))) r) :
    Ev (fun k => impl_OpsOk.j1 k l (i : Int) l (l.length : Int) (i : Int) b (l.getD i z128).f0 (l.getD i z128).f1 (l.getD i z128).f2) (!b && (allUp (fun k => pairOk (l.getD k z128) (l.getD i z128)) 0 i && r)) := by
  cases b with
  | true => exact Ev.done (fun k => by simp only [impl_OpsOk.j1]; rw [if_pos trivial]; rfl)
  | false =>
    have hz : ((i : Int)).toNat = i := by omega
    refine Ev.step (fun k => by simp only [impl_OpsOk.j1]; rw [if_neg (by simp), if_pos (by omega), if_pos (by omega), Option.bind_some, hz]) ?_
    simpa using pair_impl l i hi hn r hnext

theorem impl_at (l : List S128) (i : Nat) (hi : i < l.length) (hn : l.length ≤ 1048576) (r : Bool) (hnext : Ev (fun k => impl_OpsOk.l0 k l l (l.length : Int) (wrap64 ((i : Int) + 1))) r) :
    Ev (fun k => impl_OpsOk.l0 k l l (l.length : Int) (i : Int)) (okAt l i && r) := by
  have hsg := sign_impl (l.getD i z128).f0
  unfold okAt headOk
  by_cases h1 : ((l.getD i z128).f0.size : Int) = 1
  · rw [if_pos h1] at hsg
    refine Ev.step (fun k => by simp only [impl_OpsOk.l0]; rw [if_pos (by omega), if_pos (by omega), if_pos (by omega), rdD, if_pos h1, show (⟨#[43, 45, 42, 94, 60, 62, 61, 44]⟩ : ByteArray) = S from rfl, hsg, Option.bind_some, within_ok, Option.bind_some]) ?_
    by_cases hs : signIn (l.getD i z128).f0 = true
    · rw [hs]
      simp only [if_true]
      have h := j1_impl l i hi hn r (!(decide (1 ≤ (l.getD i z128).f1 ∧ (l.getD i z128).f1 ≤ 9))) hnext
      rw [Bool.not_not] at h
      rw [Bool.true_and, Bool.and_assoc]
      exact h
    · have hs' : signIn (l.getD i z128).f0 = false := by simpa using hs
      rw [hs']
      simp only [Bool.false_eq_true, if_false]
      simpa using j1_impl l i hi hn r true hnext
  · rw [if_neg h1] at hsg
    have hs' : signIn (l.getD i z128).f0 = false := by simpa using hsg.symm
    rw [hs']
    refine Ev.step (fun k => by simp only [impl_OpsOk.l0]; rw [if_pos (by omega), if_pos (by omega), if_pos (by omega), rdD, if_neg h1]) ?_
    simpa using j1_impl l i hi hn r true hnext

theorem impl_end (l : List S128) : Ev (fun k => impl_OpsOk.l0 k l l (l.length : Int) (l.length : Int)) (fin l) := by
  refine Ev.done (fun k => ?_)
  simp only [impl_OpsOk.l0]
  rw [if_neg (by omega), within_ok]
  rfl

theorem impl_all (l : List S128) (hn : l.length ≤ 1048576) : Ev (fun k => impl_OpsOk.f k l) (model l) := by
  have := scan (fun k i => impl_OpsOk.l0 k l l (l.length : Int) i) l.length (fun i => allUp (okAt l) i (l.length - i) && fin l) (by omega) (by simpa [allUp] using impl_end l) (fun i hi h => by
    have hd : l.length - i = (l.length - (i + 1)) + 1 := by omega
    show Ev _ (allUp (okAt l) i (l.length - i) && fin l)
    rw [hd, allUp, Bool.and_assoc]
    exact impl_at l i hi hn _ h) 0 (by omega)
  exact this
end Go.Proofs.Ytlkbdoejeomlmaa.OFnParentheses
