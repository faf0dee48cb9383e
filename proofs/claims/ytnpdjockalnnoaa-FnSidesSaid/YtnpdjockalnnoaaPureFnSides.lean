/- FnSides: for every code the law's call returns true (operators of one level bind from the left, or from the right, as they are told to). No condition. -/
import Derived.Test.YtnpdjockalnnoaaPFnSidesx4
import Derived.Test.YtnpdjockalnnoaaPl
namespace Go.Proofs.Ytnpdjockalnnoaa.Pure
open Go.RowKit Go.Proofs.Ytnpdjockalnnoaa.PFnSides Go.Proofs.YtnpdjockalnnoaaPl Go.Proofs.YtnpdjockalnnoaaW.PrintWords Go.Proofs.YtnpdjockalnnoaaW.PrintLast

theorem and255 (n : Int) : Go.bits .and .i64 n 255 = n % 256 := by
  have h255 : (BitVec.ofInt 64 255).toNat = 2 ^ 8 - 1 := by decide
  have key : (BitVec.ofInt 64 n &&& BitVec.ofInt 64 255).toNat = (n % ((2 ^ 64 : Nat) : Int)).toNat % 2 ^ 8 := by
    rw [BitVec.toNat_and, BitVec.toNat_ofInt, h255, Nat.and_two_pow_sub_one_eq_mod]
  show IntKind.i64.wrap ((BitVec.ofInt 64 n &&& BitVec.ofInt 64 255).toNat : Nat) = n % 256
  rw [key, IntKind.wrap_i64]
  omega


/-- A cursor over a code that is not too long. -/
structure Cur (b : List Int) (i : Int) : Prop where
  lo : 0 ≤ i
  hi : i ≤ b.length
  sm : b.length ≤ 1048576

theorem byte_ok {b : List Int} {i : Int} (h : Int) (c : Cur b i) : ∃ r i' h', spec_l01Byte.f b i h = some (r, i', h') ∧ 0 ≤ r ∧ r ≤ 255 ∧ Cur b i' := by
  unfold spec_l01Byte.f
  have := c.lo; have := c.hi; have := c.sm
  by_cases h1 : i < (b.length : Int)
  · rw [if_pos h1, if_pos c.lo]
    simp only [and255]
    refine ⟨_, _, _, rfl, by omega, by omega, ?_, ?_, c.sm⟩
    · rw [w64 (by omega) (by omega)]; omega
    · rw [w64 (by omega) (by omega)]; omega
  · rw [if_neg h1]
    simp only [and255]
    exact ⟨_, _, _, rfl, by omega, by omega, c⟩

theorem below_ok {b : List Int} {i : Int} (h : Int) (n : Int) (hn : 0 < n) (c : Cur b i) : ∃ r i' h', spec_l01Below.f b i h n = some (r, i', h') ∧ 0 ≤ r ∧ r < n ∧ Cur b i' := by
  unfold spec_l01Below.f
  rw [if_neg (by omega)]
  by_cases h1 : n ≤ 256
  · rw [if_pos h1]
    obtain ⟨r, i', h', e, r0, r1, c'⟩ := byte_ok h c
    rw [e]
    simp only [Option.bind_some]
    rw [if_neg (by omega)]
    exact ⟨_, _, _, rfl, Int.tmod_nonneg _ r0, Int.tmod_lt_of_pos _ hn, c'⟩
  · rw [if_neg h1]
    obtain ⟨r, i', h', e, r0, r1, c'⟩ := byte_ok h c
    rw [e]
    simp only [Option.bind_some]
    obtain ⟨s, i2, h2, e2, s0, s1, c2⟩ := byte_ok h' c'
    rw [e2]
    simp only [Option.bind_some]
    obtain ⟨t, i3, h3, e3, t0, t1, c3⟩ := byte_ok h2 c2
    rw [e3]
    simp only [Option.bind_some]
    obtain ⟨u, i4, h4, e4, u0, u1, c4⟩ := byte_ok h3 c3
    rw [e4]
    simp only [Option.bind_some]
    rw [if_neg (by omega)]
    have w1 : wrap64 (r * 16777216) = r * 16777216 := w64 (by omega) (by omega)
    have w2 : wrap64 (s * 65536) = s * 65536 := w64 (by omega) (by omega)
    have w3 : wrap64 (t * 256) = t * 256 := w64 (by omega) (by omega)
    rw [w1, w2, w3, w64 (x := r * 16777216 + s * 65536) (by omega) (by omega), w64 (x := r * 16777216 + s * 65536 + t * 256) (by omega) (by omega), w64 (x := r * 16777216 + s * 65536 + t * 256 + u) (by omega) (by omega)]
    exact ⟨_, _, _, rfl, Int.tmod_nonneg _ (by omega), Int.tmod_lt_of_pos _ hn, c4⟩

theorem new_loop (b : List Int) (_hb : b.length ≤ 1048576) (d : Nat) : ∀ (h i : Int), 0 ≤ i → (b.length : Int) - i ≤ d → ∃ h', Ev (fun k => spec_l01New.l0 k b h i) (b, 0, h') := by
  induction d with
  | zero =>
    intro h i h0 hd
    exact ⟨h, Ev.step (f := fun _ => some (b, 0, h)) (fun k => by simp only [spec_l01New.l0]; rw [if_neg (by omega)]) (Ev.now _)⟩
  | succ d ih =>
    intro h i h0 hd
    by_cases h1 : i < (b.length : Int)
    · by_cases h2 : i < 4000
      · obtain ⟨h', e⟩ := ih (Go.bits .and .i64 (wrap64 ((wrap64 ((wrap64 (h * 131)) + (wrap64 (rd b i)))) + 7)) 1073741823) (wrap64 (i + 1)) (by rw [w64 (by omega) (by omega)]; omega) (by rw [w64 (by omega) (by omega)]; omega)
        exact ⟨h', Ev.step (fun k => by simp only [spec_l01New.l0]; rw [if_pos h1, if_pos h2, if_pos h0]) e⟩
      · exact ⟨h, Ev.step (f := fun _ => some (b, 0, h)) (fun k => by simp only [spec_l01New.l0]; rw [if_pos h1, if_neg h2]) (Ev.now _)⟩
    · exact ⟨h, Ev.step (f := fun _ => some (b, 0, h)) (fun k => by simp only [spec_l01New.l0]; rw [if_neg h1]) (Ev.now _)⟩

theorem new_ok (b : List Int) (hb : b.length ≤ 1048576) : ∃ h', Ev (fun k => spec_l01New.f k b) (b, 0, h') ∧ Cur b 0 := by
  obtain ⟨h', e⟩ := new_loop b hb b.length (wrap64 (34601 + (b.length : Int))) 0 (by omega) (by omega)
  exact ⟨h', e, ⟨by omega, by omega, hb⟩⟩

set_option linter.unusedVariables false
theorem places_loop (b : List Int) (d : Nat) : ∀ (l : List Int) (j : Int) (i h : Int), Cur b i → 0 ≤ j → j ≤ 12 → (12 : Int) - j = d → (l.length : Int) = j → (∀ x ∈ l, 0 ≤ x ∧ x < 10000) →
    ∃ r, Ev (fun k => spec_DrawPlaces.l0 k l j b i h) r ∧ r.length = 12 ∧ (∀ x ∈ r, 0 ≤ x ∧ x < 10000) := by
  induction d with
  | zero =>
    intro l j i h c h0 h1 hd hl hx
    exact ⟨l, Ev.step (f := fun _ => some l) (fun k => by simp only [spec_DrawPlaces.l0]; rw [if_neg (by omega)]) (Ev.now _), by omega, hx⟩
  | succ d ih =>
    intro l j i h c h0 h1 hd hl hx
    obtain ⟨r, i', h', e, r0, r1, c'⟩ := below_ok h 10000 (by omega) c
    obtain ⟨q, eq, hq, hq2⟩ := ih (l ++ [r]) (wrap64 (j + 1)) i' h' c' (by rw [w64 (by omega) (by omega)]; omega) (by rw [w64 (by omega) (by omega)]; omega) (by rw [w64 (by omega) (by omega)]; omega) (by rw [w64 (by omega) (by omega)]; simp; omega) (by
      intro x hm
      rcases List.mem_append.1 hm with hm | hm
      · exact hx x hm
      · rw [List.mem_singleton.1 hm]; exact ⟨r0, r1⟩)
    refine ⟨q, Ev.step (fun k => ?_) eq, hq, hq2⟩
    simp only [spec_DrawPlaces.l0]
    rw [if_pos (by omega), e]
    simp only [Option.bind_some]
    rw [if_pos (by omega)]

theorem places_ok (b : List Int) (hb : b.length ≤ 1048576) : ∃ r, Ev (fun k => spec_DrawPlaces.f k b) r ∧ r.length = 12 ∧ (∀ x ∈ r, 0 ≤ x ∧ x < 10000) := by
  obtain ⟨h', e, c⟩ := new_ok b hb
  obtain ⟨r, i1, h1, e1, _, _, c1⟩ := byte_ok h' c
  obtain ⟨q, eq, hq⟩ := places_loop b 12 [] 0 i1 h1 c1 (by omega) (by omega) (by omega) (by simp) (by simp)
  refine ⟨q, ?_, hq⟩
  unfold spec_DrawPlaces.f
  refine Ev.bind e ?_
  simp only [e1, Option.bind_some]
  exact eq

def tell (r : ByteArray × Bool) : List UInt8 × Bool := (r.1.data.toList, r.2)
theorem of_tell {g : Nat → Option (ByteArray × Bool)} (hm : ∀ k, LeO (g k) (g (k + 1))) {l : List UInt8} {b : Bool} (h : ((g 60).map tell == some (l, b)) = true) : ∃ s, Ev g (s, b) ∧ s.toList = l := by
  have h1 := beq_iff_eq.1 h
  cases hg : g 60 with
  | none => rw [hg] at h1; exact absurd h1 (by simp)
  | some r =>
    rw [hg] at h1
    have h2 := Option.some.inj h1
    unfold tell at h2
    obtain ⟨s, c⟩ := r
    simp only [Prod.mk.injEq] at h2
    obtain ⟨h3, rfl⟩ := h2
    exact ⟨s, Ev.of hm hg, by rw [toList_eq]; exact h3⟩
def two : List S27 := [(⟨(⟨#[43]⟩ : ByteArray), 2, false⟩ : S27), (⟨(⟨#[42]⟩ : ByteArray), 5, false⟩ : S27)]
def one (n : Int) (b : Bool) : List S27 := [(⟨(⟨#[43]⟩ : ByteArray), n, b⟩ : S27)]
theorem two_ok : (impl_OpsOk.f 60 two == some true) = true := by decide +kernel
theorem two_climb : ((impl_Climb.f 60 two (⟨#[49, 43, 50, 42, 51, 43, 52, 42, 53]⟩ : ByteArray)).map tell == some ([40, 40, 49, 43, 40, 50, 42, 51, 41, 41, 43, 40, 52, 42, 53, 41, 41], true)) = true := by decide +kernel
theorem one_ok : ∀ (n : Fin 8) (b : Bool), (impl_OpsOk.f 60 (one (1 + (n.val : Int)) b) == some true) = true := by decide +kernel
theorem left_climb : ∀ n : Fin 8, ((impl_Climb.f 60 (one (1 + (n.val : Int)) false) (⟨#[49, 43, 50, 43, 51, 43, 52]⟩ : ByteArray)).map tell == some ([40, 40, 40, 49, 43, 50, 41, 43, 51, 41, 43, 52, 41], true)) = true := by decide +kernel
theorem right_climb : ∀ n : Fin 8, ((impl_Climb.f 60 (one (1 + (n.val : Int)) true) (⟨#[49, 43, 50, 43, 51, 43, 52]⟩ : ByteArray)).map tell == some ([40, 49, 43, 40, 50, 43, 40, 51, 43, 52, 41, 41, 41], true)) = true := by decide +kernel

theorem FnSides : laws_FnSides.Pure := by
  intro l0 _ _ _
  refine Ev.rounds ?_
  unfold laws_FnSides.f laws_big.f
  simp only [Option.bind_some]
  by_cases hb : (l0.length : Int) > 1048576
  · simp only [hb, decide_true, if_true]
    exact Ev.now _
  · simp only [hb, decide_false]
    have hb' : l0.length ≤ 1048576 := by omega
    simp only [Bool.false_eq_true, if_false]
    obtain ⟨p, ep, hp, hx⟩ := places_ok l0 hb'
    have hrd : ∀ i : Nat, i < 12 → 0 ≤ rd p i ∧ rd p i < 10000 := by
      intro i hi
      have : rd p i = p[i]'(by omega) := by unfold rd; simp [List.getD, hp, hi]
      rw [this]
      exact hx _ (List.getElem_mem _)
    have q0 := hrd 0 (by omega)
    have q1 := hrd 1 (by omega)
    have m0 : 0 ≤ Int.tmod (rd p 0) 2 := Int.tmod_nonneg _ q0.1
    have m1 : Int.tmod (rd p 0) 2 < 2 := Int.tmod_lt_of_pos _ (by omega)
    have m2 : 0 ≤ Int.tmod (rd p 1) 8 := Int.tmod_nonneg _ q1.1
    have m3 : Int.tmod (rd p 1) 8 < 8 := Int.tmod_lt_of_pos _ (by omega)
    refine Ev.bind ep ?_
    simp only [hp]
    simp only [show (0 : Int) < ((12 : Nat) : Int) from by omega, show (1 : Int) < ((12 : Nat) : Int) from by omega, if_true]
    obtain ⟨n, hn⟩ : ∃ n : Fin 8, Int.tmod (rd p 1) 8 = (n.val : Int) := ⟨⟨(Int.tmod (rd p 1) 8).toNat, by omega⟩, by show _ = (((Int.tmod (rd p 1) 8).toNat : Nat) : Int); omega⟩
    have hw : wrap64 (1 + (n.val : Int)) = 1 + (n.val : Int) := w64 (by omega) (by have := n.isLt; omega)
    simp only [hn, hw]
    obtain ⟨s2, e2, h2⟩ := of_tell (impl_Climb.mono two _) two_climb
    have o2 : Ev (fun k => impl_OpsOk.f k two) true := Ev.of (impl_OpsOk.mono two) (beq_iff_eq.1 two_ok)
    by_cases hr : Int.tmod (rd p 0) 2 = 1
    · obtain ⟨s1, e1, h1⟩ := of_tell (impl_Climb.mono (one (1 + (n.val : Int)) true) _) (right_climb n)
      have o1 : Ev (fun k => impl_OpsOk.f k (one (1 + (n.val : Int)) true)) true := Ev.of (impl_OpsOk.mono _) (beq_iff_eq.1 (one_ok n true))
      simp only [hr, beq_self_eq_true, if_true]
      refine Ev.bind e1 (Ev.bind e2 ?_)
      simp only [h1, h2, if_true]
      exact Ev.bind o1 (by simp only [if_true]; exact Ev.bind o2 (Ev.now _))
    · obtain ⟨s1, e1, h1⟩ := of_tell (impl_Climb.mono (one (1 + (n.val : Int)) false) _) (left_climb n)
      have o1 : Ev (fun k => impl_OpsOk.f k (one (1 + (n.val : Int)) false)) true := Ev.of (impl_OpsOk.mono _) (beq_iff_eq.1 (one_ok n false))
      have hr0 : (Int.tmod (rd p 0) 2 == 1) = false := beq_eq_false_iff_ne.2 hr
      simp only [hr0, if_neg hr]
      refine Ev.bind e1 (Ev.bind e2 ?_)
      simp only [h1, h2, if_true]
      exact Ev.bind o1 (by simp only [if_true]; exact Ev.bind o2 (Ev.now _))
end Go.Proofs.Ytnpdjockalnnoaa.Pure
