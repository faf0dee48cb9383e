/- FnParentheses: for every code the law's call returns true (what is in parentheses is of its own: text that tells how a drawn one binds tells it again). No condition. -/
import Derived.Test.YtlkbdoejeomlmaaMFnParentheses
namespace Go.Proofs.Ytlkbdoejeomlmaa.Pure
open Go.RowKit Go.Proofs.Ytlkbdoejeomlmaa.PFnParentheses Go.Proofs.Ytlkbdoejeomlmaa.OFnParentheses Go.Proofs.Ytlkbdoejeomlmaa.MFnParentheses Go.Proofs.YtlkbdoejeomlmaaPl Go.Proofs.YtlkbdoejeomlmaaLp Go.Proofs.YtlkbdoejeomlmaaW.PrintWords Go.Proofs.YtlkbdoejeomlmaaW.PrintLast

theorem and255 (n : Int) : Go.bits .and .i64 n 255 = n % 256 := by
  have h255 : (BitVec.ofInt 64 255).toNat = 2 ^ 8 - 1 := by decide
  have key : (BitVec.ofInt 64 n &&& BitVec.ofInt 64 255).toNat = (n % ((2 ^ 64 : Nat) : Int)).toNat % 2 ^ 8 := by
    rw [BitVec.toNat_and, BitVec.toNat_ofInt, h255, Nat.and_two_pow_sub_one_eq_mod]
  show IntKind.i64.wrap ((BitVec.ofInt 64 n &&& BitVec.ofInt 64 255).toNat : Nat) = n % 256
  rw [key, IntKind.wrap_i64]
  omega


/-- A cursor over a code that is not too long. -/
structure Cur (b : List Int) (i : Int) : Prop where
  lo : 0 ≤ i
  hi : i ≤ b.length
  sm : b.length ≤ 1048576

theorem byte_ok {b : List Int} {i : Int} (h : Int) (c : Cur b i) : ∃ r i' h', spec_l01Byte.f b i h = some (r, i', h') ∧ 0 ≤ r ∧ r ≤ 255 ∧ Cur b i' := by
  unfold spec_l01Byte.f
  have := c.lo; have := c.hi; have := c.sm
  by_cases h1 : i < (b.length : Int)
  · rw [if_pos h1, if_pos c.lo]
    simp only [and255]
    refine ⟨_, _, _, rfl, by omega, by omega, ?_, ?_, c.sm⟩
    · rw [w64 (by omega) (by omega)]; omega
    · rw [w64 (by omega) (by omega)]; omega
  · rw [if_neg h1]
    simp only [and255]
    exact ⟨_, _, _, rfl, by omega, by omega, c⟩

theorem below_ok {b : List Int} {i : Int} (h : Int) (n : Int) (hn : 0 < n) (c : Cur b i) : ∃ r i' h', spec_l01Below.f b i h n = some (r, i', h') ∧ 0 ≤ r ∧ r < n ∧ Cur b i' := by
  unfold spec_l01Below.f
  rw [if_neg (by omega)]
  by_cases h1 : n ≤ 256
  · rw [if_pos h1]
    obtain ⟨r, i', h', e, r0, r1, c'⟩ := byte_ok h c
    rw [e]
    simp only [Option.bind_some]
    rw [if_neg (by omega)]
    exact ⟨_, _, _, rfl, Int.tmod_nonneg _ r0, Int.tmod_lt_of_pos _ hn, c'⟩
  · rw [if_neg h1]
    obtain ⟨r, i', h', e, r0, r1, c'⟩ := byte_ok h c
    rw [e]
    simp only [Option.bind_some]
    obtain ⟨s, i2, h2, e2, s0, s1, c2⟩ := byte_ok h' c'
    rw [e2]
    simp only [Option.bind_some]
    obtain ⟨t, i3, h3, e3, t0, t1, c3⟩ := byte_ok h2 c2
    rw [e3]
    simp only [Option.bind_some]
    obtain ⟨u, i4, h4, e4, u0, u1, c4⟩ := byte_ok h3 c3
    rw [e4]
    simp only [Option.bind_some]
    rw [if_neg (by omega)]
    have w1 : wrap64 (r * 16777216) = r * 16777216 := w64 (by omega) (by omega)
    have w2 : wrap64 (s * 65536) = s * 65536 := w64 (by omega) (by omega)
    have w3 : wrap64 (t * 256) = t * 256 := w64 (by omega) (by omega)
    rw [w1, w2, w3, w64 (x := r * 16777216 + s * 65536) (by omega) (by omega), w64 (x := r * 16777216 + s * 65536 + t * 256) (by omega) (by omega), w64 (x := r * 16777216 + s * 65536 + t * 256 + u) (by omega) (by omega)]
    exact ⟨_, _, _, rfl, Int.tmod_nonneg _ (by omega), Int.tmod_lt_of_pos _ hn, c4⟩

theorem new_loop (b : List Int) (_hb : b.length ≤ 1048576) (d : Nat) : ∀ (h i : Int), 0 ≤ i → (b.length : Int) - i ≤ d → ∃ h', Ev (fun k => spec_l01New.l0 k b h i) (b, 0, h') := by
  induction d with
  | zero =>
    intro h i h0 hd
    exact ⟨h, Ev.step (f := fun _ => some (b, 0, h)) (fun k => by simp only [spec_l01New.l0]; rw [if_neg (by omega)]) (Ev.now _)⟩
  | succ d ih =>
    intro h i h0 hd
    by_cases h1 : i < (b.length : Int)
    · by_cases h2 : i < 4000
      · obtain ⟨h', e⟩ := ih (Go.bits .and .i64 (wrap64 ((wrap64 ((wrap64 (h * 131)) + (wrap64 (rd b i)))) + 7)) 1073741823) (wrap64 (i + 1)) (by rw [w64 (by omega) (by omega)]; omega) (by rw [w64 (by omega) (by omega)]; omega)
        exact ⟨h', Ev.step (fun k => by simp only [spec_l01New.l0]; rw [if_pos h1, if_pos h2, if_pos h0]) e⟩
      · exact ⟨h, Ev.step (f := fun _ => some (b, 0, h)) (fun k => by simp only [spec_l01New.l0]; rw [if_pos h1, if_neg h2]) (Ev.now _)⟩
    · exact ⟨h, Ev.step (f := fun _ => some (b, 0, h)) (fun k => by simp only [spec_l01New.l0]; rw [if_neg h1]) (Ev.now _)⟩

theorem new_ok (b : List Int) (hb : b.length ≤ 1048576) : ∃ h', Ev (fun k => spec_l01New.f k b) (b, 0, h') ∧ Cur b 0 := by
  obtain ⟨h', e⟩ := new_loop b hb b.length (wrap64 (34601 + (b.length : Int))) 0 (by omega) (by omega)
  exact ⟨h', e, ⟨by omega, by omega, hb⟩⟩

set_option linter.unusedVariables false
/-! ### what is drawn -/
def allOps (n : Int) (b : Bool) : List S128 := [(⟨(⟨#[43]⟩ : ByteArray), 2, false⟩ : S128), (⟨(⟨#[45]⟩ : ByteArray), 2, false⟩ : S128), (⟨(⟨#[42]⟩ : ByteArray), 4, false⟩ : S128), (⟨(⟨#[94]⟩ : ByteArray), 6, true⟩ : S128), (⟨(⟨#[61]⟩ : ByteArray), 1, true⟩ : S128), (⟨(⟨#[60]⟩ : ByteArray), n, b⟩ : S128)]
theorem all_one : ∀ (j : Fin 6) (r : Fin 2) (b : Bool), model [rd_T128 (allOps (1 + 2 * (r.val : Int)) b) (j.val : Int)] = true := by decide +kernel

theorem ops_loop (b : List Int) (A : List S128) (hA : A.length = 6) (hA1 : ∀ j : Nat, j < 6 → model [rd_T128 A (j : Int)] = true) (q : Int) (q0 : 0 ≤ q) (q1 : q < 6) (d : Nat) : ∀ (i : Nat) (out : List S128) (c h : Int), i + d = 4 → (i = 0 → out = []) → (i ≠ 0 → model out = true) → Cur b c →
    ∃ o c' h', Ev (fun k => spec_l13Ops.l0 k A out q (i : Int) b c h) (o, c', h') ∧ model o = true ∧ Cur b c' := by
  have key : ∀ (i : Nat) (out : List S128) (c h : Int), i ≤ 4 → (i = 0 → out = []) → (i ≠ 0 → model out = true) → Cur b c → (∀ (o2 : List S128) (c2 h2 : Int), i < 4 → model o2 = true → Cur b c2 → ∃ o c' h', Ev (fun k => spec_l13Ops.l0 k A o2 q ((i + 1 : Nat) : Int) b c2 h2) (o, c', h') ∧ model o = true ∧ Cur b c') →
      ∃ o c' h', Ev (fun k => spec_l13Ops.l0 k A out q (i : Int) b c h) (o, c', h') ∧ model o = true ∧ Cur b c' := by
    intro i out c h hi he hm hc IH
    obtain ⟨r, c1, h1, e1, r0, r1, hc1⟩ := below_ok h 4 (by omega) hc
    have hw : wrap64 (1 + r) = 1 + r := w64 (by omega) (by omega)
    have hwi : wrap64 ((i : Int) + 1) = ((i + 1 : Nat) : Int) := w64 (by omega) (by omega)
    by_cases hlt : (i : Int) < 1 + r
    · have hlen : out.length ≤ 6 := by
        by_cases h0 : i = 0
        · rw [he h0]; exact Nat.zero_le _
        · exact (model_all out (hm h0)).1.2
      have m0 : 0 ≤ Int.tmod (wrap64 (q + (i : Int))) 6 := Int.tmod_nonneg _ (by rw [w64 (by omega) (by omega)]; omega)
      have m1 : Int.tmod (wrap64 (q + (i : Int))) 6 < 6 := Int.tmod_lt_of_pos _ (by omega)
      obtain ⟨j, hj, ej⟩ : ∃ j : Nat, j < 6 ∧ Int.tmod (wrap64 (q + (i : Int))) 6 = (j : Int) := ⟨(Int.tmod (wrap64 (q + (i : Int))) 6).toNat, by omega, by omega⟩
      have eta : (⟨(rd_T128 A (j : Int)).f0, (rd_T128 A (j : Int)).f1, (rd_T128 A (j : Int)).f2⟩ : S128) = rd_T128 A (j : Int) := rfl
      have step : ∀ r2, Ev (fun k => (spec_OpsOk.f k ([] ++ out ++ [rd_T128 A (j : Int)])).bind fun t => (if t = true then (spec_l13Ops.l0 k A ([] ++ out ++ [rd_T128 A (j : Int)]) q (wrap64 ((i : Int) + 1)) b c1 h1) else (spec_l13Ops.l0 k A out q (wrap64 ((i : Int) + 1)) b c1 h1))) r2 → Ev (fun k => spec_l13Ops.l0 k A out q (i : Int) b c h) r2 := fun r2 e => by
        refine Ev.step (fun k => ?_) e
        simp only [spec_l13Ops.l0]
        rw [e1, Option.bind_some]
        dsimp only
        rw [hw, if_pos hlt, Option.bind_some, if_pos (by simp only [List.length_nil]; omega), Option.bind_some, ej, if_pos (by omega), if_pos (by omega), Option.bind_some, if_pos (by simp only [List.length_append, List.length_nil, List.length_cons]; omega), Option.bind_some]
      have eo := spec_all ([] ++ out ++ [rd_T128 A (j : Int)]) (by simp only [List.length_append, List.length_nil, List.length_cons]; omega)
      have hi4 : i < 4 := by omega
      by_cases hmn : model ([] ++ out ++ [rd_T128 A (j : Int)]) = true
      · obtain ⟨o, c', h', e, m, hc'⟩ := IH ([] ++ out ++ [rd_T128 A (j : Int)]) c1 h1 hi4 hmn hc1
        refine ⟨o, c', h', step _ (Ev.bind eo ?_), m, hc'⟩
        simp only [if_pos hmn, hwi]
        exact e
      · have h0 : i ≠ 0 := fun h0 => hmn (by rw [he h0]; exact hA1 j hj)
        obtain ⟨o, c', h', e, m, hc'⟩ := IH out c1 h1 hi4 (hm h0) hc1
        refine ⟨o, c', h', step _ (Ev.bind eo ?_), m, hc'⟩
        simp only [if_neg hmn, hwi]
        exact e
    · refine ⟨out, c1, h1, Ev.done (fun k => ?_), hm (by omega), hc1⟩
      simp only [spec_l13Ops.l0]
      rw [e1, Option.bind_some]
      dsimp only
      rw [hw, if_neg hlt]
  induction d with
  | zero => intro i out c h hi he hm hc; exact key i out c h (by omega) he hm hc (fun o2 c2 h2 h4 => by omega)
  | succ d ih => intro i out c h hi he hm hc; exact key i out c h (by omega) he hm hc (fun o2 c2 h2 h4 m2 hc2 => ih (i + 1) o2 c2 h2 (by omega) (fun h0 => by omega) (fun _ => m2) hc2)

theorem ops_ok (b : List Int) (c h : Int) (hc : Cur b c) : ∃ o c' h', Ev (fun k => spec_l13Ops.f k b c h) (o, c', h') ∧ model o = true ∧ Cur b c' := by
  obtain ⟨r1, c1, h1, e1, r10, r11, hc1⟩ := below_ok h 2 (by omega) hc
  obtain ⟨r2, c2, h2, e2, r20, r21, hc2⟩ := below_ok h1 2 (by omega) hc1
  obtain ⟨r3, c3, h3, e3, r30, r31, hc3⟩ := below_ok h2 6 (by omega) hc2
  have hw : wrap64 (1 + wrap64 (2 * r1)) = 1 + 2 * r1 := by rw [w64 (x := 2 * r1) (by omega) (by omega), w64 (by omega) (by omega)]
  obtain ⟨o, c', h', e, m, hc'⟩ := ops_loop b (allOps (1 + 2 * r1) (r2 == 0)) rfl (fun j hj => by
    have := all_one ⟨j, hj⟩ ⟨r1.toNat, by omega⟩ (r2 == 0)
    simp only [show ((r1.toNat : Nat) : Int) = r1 from by omega] at this
    exact this) r3 r30 r31 4 0 [] c3 h3 (by omega) (fun _ => rfl) (fun h => absurd rfl h) hc3
  refine ⟨o, c', h', ?_, m, hc'⟩
  unfold spec_l13Ops.f spec_l01Once.f
  simp only [e1, e2, e3, Option.bind_some, hw]
  exact e

theorem pick_ok {b : List Int} {c : Int} (h : Int) (L : List ByteArray) (hL : 0 < L.length) (hl : L.length ≤ 100) (hc : Cur b c) : ∃ x c' h', spec_l01Pick.f b c h L = some (x, c', h') ∧ x ∈ L ∧ Cur b c' := by
  obtain ⟨r, c1, h1, e1, r0, r1, hc1⟩ := below_ok h (L.length : Int) (by omega) hc
  refine ⟨rdOf ByteArray.empty L r, c1, h1, ?_, ?_, hc1⟩
  · unfold spec_l01Pick.f
    rw [e1, Option.bind_some]
    dsimp only
    rw [if_pos r0, if_pos r1]
  · unfold rdOf
    exact getD_mem L ByteArray.empty (by omega)

theorem text_loop (b : List Int) (A : List S128) (hm : model A = true) (d : Nat) : ∀ (i : Nat) (s : ByteArray) (c h : Int), i + d = 5 → s.size ≤ 3 + 4 * i → Cur b c →
    ∃ o c' h', Ev (fun k => spec_l13Text.l0 k A s (i : Int) b c h) (o, c', h') ∧ o.size ≤ 12 := by
  obtain ⟨⟨l1, l2⟩, hA⟩ := model_all A hm
  have key : ∀ (i : Nat) (s : ByteArray) (c h : Int), i ≤ 5 → s.size ≤ 3 + 4 * i → Cur b c → (∀ (s2 : ByteArray) (c2 h2 : Int), i < 5 → s2.size ≤ 3 + 4 * (i + 1) → Cur b c2 → ∃ o c' h', Ev (fun k => spec_l13Text.l0 k A s2 ((i + 1 : Nat) : Int) b c2 h2) (o, c', h') ∧ o.size ≤ 12) →
      ∃ o c' h', Ev (fun k => spec_l13Text.l0 k A s (i : Int) b c h) (o, c', h') ∧ o.size ≤ 12 := by
    intro i s c h hi hs hc IH
    obtain ⟨r, c1, h1, e1, r0, r1, hc1⟩ := below_ok h 5 (by omega) hc
    have hwi : wrap64 ((i : Int) + 1) = ((i + 1 : Nat) : Int) := w64 (by omega) (by omega)
    by_cases hlt : (i : Int) < r
    · obtain ⟨r2, c2, h2, e2, r20, r21, hc2⟩ := below_ok h1 (A.length : Int) (by omega) hc1
      have hx : (rd_T128 A r2).f0.size = 1 := by
        refine (hA _ ?_).1
        unfold rd_T128
        exact getD_mem A z128 (by omega)
      obtain ⟨x, c3, h3, e3, hx3, hc3⟩ := pick_ok h2 [(⟨#[52]⟩ : ByteArray), (⟨#[53]⟩ : ByteArray), (⟨#[54]⟩ : ByteArray), (⟨#[40, 55, 41]⟩ : ByteArray)] (by decide) (by decide) hc2
      have hxs : x.size ≤ 3 := by
        have : ∀ y ∈ [(⟨#[52]⟩ : ByteArray), (⟨#[53]⟩ : ByteArray), (⟨#[54]⟩ : ByteArray), (⟨#[40, 55, 41]⟩ : ByteArray)], y.size ≤ 3 := by decide
        exact this x hx3
      have hsz : ((s ++ (rd_T128 A r2).f0) ++ x).size ≤ 3 + 4 * (i + 1) := by rw [ByteArray.size_append, ByteArray.size_append]; omega
      obtain ⟨o, c', h', e, ho⟩ := IH ((s ++ (rd_T128 A r2).f0) ++ x) c3 h3 (by omega) hsz hc3
      refine ⟨o, c', h', Ev.next e (fun k => ?_), ho⟩
      simp only [spec_l13Text.l0]
      rw [e1, Option.bind_some]
      dsimp only
      rw [if_pos hlt, e2, Option.bind_some]
      dsimp only
      rw [if_pos r20, if_pos r21, if_pos (by omega), e3, Option.bind_some]
      dsimp only
      rw [if_pos (by rw [ByteArray.size_append]; omega), hwi]
    · by_cases h12 : (s.size : Int) > 12
      · refine ⟨s.extract 0 11, c1, h1, Ev.done (fun k => ?_), by rw [ByteArray.size_extract]; omega⟩
        simp only [spec_l13Text.l0]
        rw [e1, Option.bind_some]
        dsimp only
        rw [if_neg hlt, if_pos h12, if_pos (by omega), if_pos (by omega)]
      · refine ⟨s, c1, h1, Ev.done (fun k => ?_), by omega⟩
        simp only [spec_l13Text.l0]
        rw [e1, Option.bind_some]
        dsimp only
        rw [if_neg hlt, if_neg h12]
  induction d with
  | zero => intro i s c h hi hs hc; exact key i s c h (by omega) hs hc (fun s2 c2 h2 h5 => by omega)
  | succ d ih => intro i s c h hi hs hc; exact key i s c h (by omega) hs hc (fun s2 c2 h2 h5 hs2 hc2 => ih (i + 1) s2 c2 h2 (by omega) (by omega) hc2)

theorem draw_ok (b : List Int) (hb : b.length ≤ 1048576) : ∃ (A : List S128) (t : ByteArray), Ev (fun k => spec_DrawOps.f k b) (A, t) ∧ model A = true ∧ t.size ≤ 12 := by
  obtain ⟨h0, e0, c0⟩ := new_ok b hb
  obtain ⟨A, c1, h1, e1, m, hc1⟩ := ops_ok b 0 h0 c0
  obtain ⟨x, c2, h2, e2, hx, hc2⟩ := pick_ok h1 [(⟨#[49]⟩ : ByteArray), (⟨#[50]⟩ : ByteArray), (⟨#[40, 51, 41]⟩ : ByteArray)] (by decide) (by decide) hc1
  have hxs : x.size ≤ 3 := by
    have : ∀ y ∈ [(⟨#[49]⟩ : ByteArray), (⟨#[50]⟩ : ByteArray), (⟨#[40, 51, 41]⟩ : ByteArray)], y.size ≤ 3 := by decide
    exact this x hx
  obtain ⟨t, c3, h3, e3, ht⟩ := text_loop b A m 5 0 x c2 h2 (by omega) (by omega) hc2
  refine ⟨A, t, ?_, m, ht⟩
  unfold spec_DrawOps.f
  refine Ev.bind e0 (Ev.bind e1 ?_)
  refine Ev.bind (a := (t, c3, h3)) ?_ (Ev.now _)
  unfold spec_l13Text.f
  dsimp only
  simp only [e2, Option.bind_some]
  exact e3

theorem FnParentheses : laws_FnParentheses.Pure := by
  intro l0 _ _ _
  refine Ev.rounds ?_
  unfold laws_FnParentheses.f laws_big.f
  simp only [Option.bind_some]
  by_cases hb : (l0.length : Int) > 1048576
  · simp only [hb, decide_true, if_true]
    exact Ev.now _
  · simp only [hb, decide_false]
    have hb' : l0.length ≤ 1048576 := by omega
    simp only [Bool.false_eq_true, if_false]
    obtain ⟨A, t, ed, hm, ht⟩ := draw_ok l0 hb'
    obtain ⟨⟨a1, a2⟩, hA⟩ := model_all A hm
    have eo := impl_all A (by omega)
    rw [hm] at eo
    have told : ∀ s : ByteArray, Ev (fun k => laws_FnParentheses.j0 k A t s true) true := fun s => by
      refine Ev.step (f := fun k => (impl_OpsOk.f k A).bind fun x => some x) (fun k => by simp only [laws_FnParentheses.j0]; rw [if_pos trivial]) (Ev.bind eo (Ev.now _))
    refine Ev.bind ed ?_
    rcases climb_cases A t hm with ⟨o, _, d, e⟩ | e
    · refine Ev.bind e ?_
      simp only [if_true]
      by_cases h12 : (o.size : Int) > 12
      · rw [decide_eq_true h12]
        exact told o
      · rw [decide_eq_false h12]
        have T := (tree_of A t d).1 (.inr rfl)
        have d2 := reads_all A (fun o ho => (hA o ho).1) (fun o ho => (hA o ho).2.2) (fun o ho => (hA o ho).2.1) T (⟨#[]⟩ : ByteArray)
        have e2 := climb_of A o hm (by omega) d2
        have h40 : (⟨#[40]⟩ : ByteArray).size = 1 := rfl
        refine Ev.step (f := fun k => (impl_Climb.f k A o).bind fun x => (if 1 + t.size ≤ 9223372036854775807 then (if ((⟨#[40]⟩ : ByteArray) ++ t).size + 1 ≤ 9223372036854775807 then ((impl_Climb.f k A (((⟨#[40]⟩ : ByteArray) ++ t) ++ (⟨#[41]⟩ : ByteArray))).bind fun y => (if x.2 = true then (if x.1.toList = o.toList then (if (t.size : Int) > 10 then (some true) else (if y.2 = true then (some (y.1.toList == o.toList)) else (some false))) else (some false)) else (some false))) else (none)) else (none))) (fun k => by simp only [laws_FnParentheses.j0]; rw [if_neg Bool.false_ne_true]) (Ev.bind e2 ?_)
        have z1 : 1 + t.size ≤ 9223372036854775807 := by omega
        have z2 : ((⟨#[40]⟩ : ByteArray) ++ t).size + 1 ≤ 9223372036854775807 := by rw [ByteArray.size_append, h40]; omega
        simp only [if_pos z1, if_pos z2, if_true]
        by_cases h10 : (t.size : Int) > 10
        · simp only [if_pos h10]
          rcases climb_cases A (((⟨#[40]⟩ : ByteArray) ++ t) ++ (⟨#[41]⟩ : ByteArray)) hm with ⟨q, _, _, e3⟩ | e3
          · exact Ev.bind e3 (Ev.now _)
          · exact Ev.bind e3 (Ev.now _)
        · simp only [if_neg h10]
          have d3 := reads_in A (fun o ho => (hA o ho).1) t (fun o ho => (hA o ho).2.1) d
          have h41 : (⟨#[41]⟩ : ByteArray).size = 1 := rfl
          have e3 := climb_of A (((⟨#[40]⟩ : ByteArray) ++ t) ++ (⟨#[41]⟩ : ByteArray)) hm (by rw [ByteArray.size_append, ByteArray.size_append, h40, h41]; omega) d3
          refine Ev.bind e3 ?_
          simp only [if_true, beq_self_eq_true]
          exact Ev.now _
    · refine Ev.bind e ?_
      simp only [Bool.false_eq_true, if_false]
      exact told _
end Go.Proofs.Ytlkbdoejeomlmaa.Pure
