/- Written by a program of this session out of Lean's print of the translation: what the calls of these Go functions come to, in plain Lean. No condition. -/
import Derived.Test.YtlkbdoejeomlmaaPFnExactClimbx0
import Derived.Test.YtlkbdoejeomlmaaPFnExactClimbx2
namespace Go.Proofs.Ytlkbdoejeomlmaa.PFnExactClimb
open Go.RowKit Go.Proofs.YtlkbdoejeomlmaaW.PrintWords Go.Proofs.YtlkbdoejeomlmaaW.PrintLast Go.Proofs.YtlkbdoejeomlmaaW.PrintMore
attribute [local go_sem] max2_int min2_int max_two min_two max_three min_three max_four min_four   -- for this text's walks alone
set_option linter.unusedVariables false
set_option linter.unusedSimpArgs false

/-! ### laws_szOpS: function 36 -/
def laws_szOpS.l0 : Nat → List (S134) → Int → Int → Option (Int)
  | 0, _, _, _ => none
  | k + 1, x0, x1, x5 => if x5 < (x0.length : Int) then (if 0 ≤ x5 then ((laws_szOp.f ((rd_T134 x0 x5).f0) ((rd_T134 x0 x5).f1) ((rd_T134 x0 x5).f2) x1).bind fun t158 => (if t158 < 0 then (some (-1)) else (laws_szOpS.l0 k x0 t158 (wrap64 (x5 + 1))))) else (none)) else (some x1)
def laws_szOpS.f (k : Nat) (l0 : List (S134)) (a1 : Int) : Option (Int) := if (wrap64 (a1 - (l0.length : Int))) < 0 then (some (-1)) else (laws_szOpS.l0 k l0 (wrap64 (a1 - (l0.length : Int))) 0)
theorem laws_szOpS.mono_l : ∀ k, (∀ y0 y1 y2, LeO (laws_szOpS.l0 k y0 y1 y2) (laws_szOpS.l0 (k + 1) y0 y1 y2))
  | 0 => fun _ _ _ r h => by simp [laws_szOpS.l0] at h
  | k + 1 => by
    have ih0 := laws_szOpS.mono_l k
    · intro y0 y1 y2
      unfold laws_szOpS.l0
      repeat' first
      | (with_reducible exact ih0 _ _ _)
      | (with_reducible exact LeO.refl _)
      | (with_reducible exact LeO.none _)
      | (with_reducible refine LeO.ite ?_ ?_)
      | (with_reducible refine LeO.bind ?_ (fun _ => ?_))
      | exact ih0 _ _ _
      | exact LeO.none _
      | refine LeO.ite ?_ ?_
      | refine LeO.bind ?_ (fun _ => ?_)
theorem laws_szOpS.mono : ∀ a0 a1 k, LeO (laws_szOpS.f k a0 a1) (laws_szOpS.f (k + 1) a0 a1) := by
  intro a0 a1 k
  have ih0 := laws_szOpS.mono_l k
  unfold laws_szOpS.f
  repeat' first
      | (with_reducible exact ih0 _ _ _)
      | (with_reducible exact LeO.refl _)
      | (with_reducible exact LeO.none _)
      | (with_reducible refine LeO.ite ?_ ?_)
      | (with_reducible refine LeO.bind ?_ (fun _ => ?_))
      | exact ih0 _ _ _
      | exact LeO.none _
      | refine LeO.ite ?_ ?_
      | refine LeO.bind ?_ (fun _ => ?_)
set_option maxHeartbeats 8000000 in
set_option maxRecDepth 100000 in
theorem laws_szOpS.calls (k : Nat) (A0 : Option Addr) (c0 : Nat) (l0 : List (S134)) (a1 : Int) (r : Int) (w : World) (hr0 : Kd.C k134 w A0 l0.length l0) (hc0 : l0.length ≤ c0) (h : laws_szOpS.f k l0 a1 = some r) :
    Calls Try.prog 36 #[.slice A0 l0.length c0, .int .i64 a1] w fun e w' => e = .returned (.int .i64 r) ∧ Below w.heap.size w w' := by
  have hu134 := Try.underlying134
  have HR0 := Aside0.mk hr0
  have HC0 := Aside0.mk hc0
  clear hr0 hc0
  have HB := Aside0.mk (Below.refl w.heap.size w)
  have H : (if (wrap64 (a1 - (l0.length : Int))) < 0 then (some (-1)) else (laws_szOpS.l0 k l0 (wrap64 (a1 - (l0.length : Int))) 0)) = some r := h
  clear h
  by_cases c3 : (wrap64 (a1 - (l0.length : Int))) < 0
  · rw [if_pos c3] at H
    have c3b0 : decide ((wrap64 (a1 - (l0.length : Int))) < 0) = true := decide_eq_true c3
    clear c3
    obtain rfl := Option.some.inj H
    go_enter Try.func36, Try.ntmps36
    go_wp2
    go_ret
    exact ⟨by first | rfl | (simp [errW_none, errW_some] <;> rfl) | (simp [*, errW_none, errW_some] <;> rfl), by repeat (first | (with_reducible first | exact HB.out | apply below_alloc | apply pw_below_drewN | apply below_drew1) | exact HB.out)⟩
  · rw [if_neg c3] at H
    have c3b0 : decide ((wrap64 (a1 - (l0.length : Int))) < 0) = false := decide_eq_false c3
    clear c3
    have H' := Aside0.mk H
    clear H
    go_enter Try.func36, Try.ntmps36
    go_wp2
    go_loopg [1, 5] k (fun kq v1 v5 w' => ∃ (x1_1 : Int) (x5_1 : Int), v1 = .int .i64 x1_1 ∧ v5 = .int .i64 x5_1 ∧ Aside0 (laws_szOpS.l0 kq l0 x1_1 x5_1 = some r) ∧ Aside0 (kq ≤ k) ∧ Aside0 (Below w.heap.size w w'))
    case atStart => exact ⟨(wrap64 (a1 - (l0.length : Int))), (0), (by first | rfl | (simp; done) | (simp [*]; done) | (simp [isE0, isE1]; done)), (by first | rfl | (simp; done) | (simp [*]; done) | (simp [isE0, isE1]; done)), H', ⟨Nat.le_refl _⟩, ⟨by repeat (first | (with_reducible first | exact HB.out | apply below_alloc | apply pw_below_drewN | apply below_drew1) | exact HB.out)⟩⟩
    case round =>
      clear H'
      try clear p2
      try clear c3
      try clear c3b0
      obtain ⟨x1_1, x5_1, rfl, rfl, HA, HK1, HB⟩ := hrel
      cases gk with
      | zero => exact absurd HA.out (by simp [laws_szOpS.l0])
      | succ k1 =>
        have H := HA.out
        clear HA
        simp only [laws_szOpS.l0] at H
        by_cases c4 : x5_1 < (l0.length : Int)
        · rw [if_pos c4] at H
          have c4b0 : decide (x5_1 < (l0.length : Int)) = true := decide_eq_true c4
          clear c4
          by_cases c5 : 0 ≤ x5_1
          · rw [if_pos c5] at H
            have c5b0 : decide (0 ≤ x5_1) = true := decide_eq_true c5
            clear c5
            replace H := Option.bind_eq_some_iff.mp H
            obtain ⟨t158, A60, H⟩ := H
            replace H : (if t158 < 0 then (some (-1)) else (laws_szOpS.l0 k1 l0 t158 (wrap64 (x5_1 + 1)))) = some r := H
            have A6 := Aside0.mk A60
            clear A60
            by_cases c7 : t158 < 0
            · rw [if_pos c7] at H
              have c7b0 : decide (t158 < 0) = true := decide_eq_true c7
              clear c7
              obtain rfl := Option.some.inj H
              have p157 : 0 ≤ (x5_1 : Int) := oa
              have q157 : x5_1 < (l0.length : Int) := oa
              obtain ⟨ad157, e157, hx157_0, hx157_1, hx157_2⟩ := at_T134 HR0.out x5_1 p157 q157
              cases e157
              replace hx157_0 := hbc HB.out hx157_0
              replace hx157_1 := hbc HB.out hx157_1
              replace hx157_2 := hbc HB.out hx157_2
              replace p157 := eq_true p157
              replace q157 := eq_true q157
              go_wp2_with (first | ((with_reducible refine gate_callee (f := 92) rfl ?_); refine goesL_ (some 23) rfl rfl Try.func92 (by kernel_rfl) rfl #[.agg #[.string ((rd_T134 l0 x5_1).f0), .int .i64 ((rd_T134 l0 x5_1).f1), .bool ((rd_T134 l0 x5_1).f2)], .int .i64 x1_1] rfl (by (try simp only [List.map_toArray, List.map_cons, List.map_nil]); first | done | rfl | (simp only [List.length_drop, List.length_take]; rfl)) ?_; (with_reducible refine (laws_szOp.calls ((rd_T134 l0 x5_1).f0) ((rd_T134 l0 x5_1).f1) ((rd_T134 l0 x5_1).f2) x1_1 t158 _ A6.out).mono ?_); rintro e w8 ⟨rfl, hb⟩; refine ⟨_, rfl, ?_⟩; have n0_ := Aside0.mk (below_step bw hb); clear HB; have HB := n0_; clear n0_; (try clear hb); (try clear hb2); (try clear hk); (try clear hi)))
              go_ret
              exact ⟨by first | rfl | (simp [errW_none, errW_some] <;> rfl) | (simp [*, errW_none, errW_some] <;> rfl), by repeat (first | (with_reducible first | exact HB.out | apply below_alloc | apply pw_below_drewN | apply below_drew1) | exact HB.out)⟩
            · rw [if_neg c7] at H
              have c7b0 : decide (t158 < 0) = false := decide_eq_false c7
              clear c7
              have H' := Aside0.mk H
              clear H
              have p157 : 0 ≤ (x5_1 : Int) := oa
              have q157 : x5_1 < (l0.length : Int) := oa
              obtain ⟨ad157, e157, hx157_0, hx157_1, hx157_2⟩ := at_T134 HR0.out x5_1 p157 q157
              cases e157
              replace hx157_0 := hbc HB.out hx157_0
              replace hx157_1 := hbc HB.out hx157_1
              replace hx157_2 := hbc HB.out hx157_2
              replace p157 := eq_true p157
              replace q157 := eq_true q157
              go_wp2_with (first | ((with_reducible refine gate_callee (f := 92) rfl ?_); refine goesL_ (some 23) rfl rfl Try.func92 (by kernel_rfl) rfl #[.agg #[.string ((rd_T134 l0 x5_1).f0), .int .i64 ((rd_T134 l0 x5_1).f1), .bool ((rd_T134 l0 x5_1).f2)], .int .i64 x1_1] rfl (by (try simp only [List.map_toArray, List.map_cons, List.map_nil]); first | done | rfl | (simp only [List.length_drop, List.length_take]; rfl)) ?_; (with_reducible refine (laws_szOp.calls ((rd_T134 l0 x5_1).f0) ((rd_T134 l0 x5_1).f1) ((rd_T134 l0 x5_1).f2) x1_1 t158 _ A6.out).mono ?_); rintro e w9 ⟨rfl, hb⟩; refine ⟨_, rfl, ?_⟩; have n0_ := Aside0.mk (below_step bw hb); clear HB; have HB := n0_; clear n0_; (try clear hb); (try clear hb2); (try clear hk); (try clear hi)))
              go_roundg k1
              case measure => have := HK1.out; omega
              case rel => exact ⟨(t158), (wrap64 (x5_1 + 1)), (by first | rfl | (simp; done) | (simp [*]; done) | (simp [isE0, isE1]; done)), (by first | rfl | (simp; done) | (simp [*]; done) | (simp [isE0, isE1]; done)), H', ⟨by have := HK1.out; omega⟩, ⟨by repeat (first | (with_reducible first | exact HB.out | apply below_alloc | apply pw_below_drewN | apply below_drew1) | exact HB.out)⟩⟩
          · rw [if_neg c5] at H
            exact absurd H (by simp)
        · rw [if_neg c4] at H
          have c4b0 : decide (x5_1 < (l0.length : Int)) = false := decide_eq_false c4
          clear c4
          obtain rfl := Option.some.inj H
          go_wp2
          go_ret
          exact ⟨by first | rfl | (simp [errW_none, errW_some] <;> rfl) | (simp [*, errW_none, errW_some] <;> rfl), by repeat (first | (with_reducible first | exact HB.out | apply below_alloc | apply pw_below_drewN | apply below_drew1) | exact HB.out)⟩

/-! ### spec_l01In: function 70 -/
def spec_l01In.f (a0 : Int) (a1 : Int) (a2 : Int) : Option (Bool) := if a0 ≥ a1 then (some (decide (a0 ≤ a2))) else (some false)
set_option maxHeartbeats 8000000 in
set_option maxRecDepth 100000 in
theorem spec_l01In.calls (a0 : Int) (a1 : Int) (a2 : Int) (r : Bool) (w : World) (h : spec_l01In.f a0 a1 a2 = some r) :
    Calls Try.prog 70 #[.int .i64 a0, .int .i64 a1, .int .i64 a2] w fun e w' => e = .returned (.bool r) ∧ Drawn0 w w' := by
  have H : (if a0 ≥ a1 then (some (decide (a0 ≤ a2))) else (some false)) = some r := h
  clear h
  by_cases c4 : a0 ≥ a1
  · rw [if_pos c4] at H
    have c4b0 : decide (a1 ≤ a0) = true := decide_eq_true c4
    clear c4
    obtain rfl := Option.some.inj H
    go_enter Try.func70, Try.ntmps70
    go_wp2
    go_ret
    exact ⟨by first | rfl | (simp; done) | (simp [*]; done) | (simp [isE0, isE1]; done), by repeat (first | exact Drawn0.refl _ | apply Drawn0.step)⟩
  · rw [if_neg c4] at H
    have c4b0 : decide (a1 ≤ a0) = false := decide_eq_false c4
    clear c4
    obtain rfl := Option.some.inj H
    go_enter Try.func70, Try.ntmps70
    go_wp2
    go_ret
    exact ⟨by first | rfl | (simp; done) | (simp [*]; done) | (simp [isE0, isE1]; done), by repeat (first | exact Drawn0.refl _ | apply Drawn0.step)⟩

/-! ### spec_OpsOk: function 93 -/
mutual
def spec_OpsOk.l0 : Nat → List (S128) → ByteArray → Int → Option (Bool)
  | 0, _, _, _ => none
  | k + 1, x0, x3, x4 => if x4 < (x0.length : Int) then (spec_OpsOk.l1 k x0 x3 x4 false 0) else ((spec_l01In.f (x0.length : Int) 1 6).bind fun t159 => (some t159))
def spec_OpsOk.l1 : Nat → List (S128) → ByteArray → Int → Bool → Int → Option (Bool)
  | 0, _, _, _, _, _ => none
  | k + 1, x0, x3, x4, x5, x6 => if x6 < (x3.size : Int) then (if x5 = true then (spec_OpsOk.l1 k x0 x3 x4 true (wrap64 (x6 + 1))) else (if 0 ≤ x4 then (if x4 < (x0.length : Int) then (if 0 ≤ x6 then (if x6 ≤ (wrap64 (x6 + 1)) then (if (wrap64 (x6 + 1)) ≤ (x3.size : Int) then (spec_OpsOk.l1 k x0 x3 x4 (((rd_T128 x0 x4).f0).toList == (x3.extract (x6 : Int).toNat ((wrap64 (x6 + 1)) : Int).toNat).toList) (wrap64 (x6 + 1))) else (none)) else (none)) else (none)) else (none)) else (none))) else (if x5 = true then (if 0 ≤ x4 then (if x4 < (x0.length : Int) then ((spec_l01In.f ((rd_T128 x0 x4).f1) 1 9).bind fun t162 => (spec_OpsOk.j2 k x0 x3 x4 (!t162))) else (none)) else (none)) else (spec_OpsOk.j2 k x0 x3 x4 true))
def spec_OpsOk.j2 : Nat → List (S128) → ByteArray → Int → Bool → Option (Bool)
  | 0, _, _, _, _ => none
  | k + 1, x0, x3, x4, x44 => if x44 = true then (some false) else (spec_OpsOk.l2 k x0 x3 x4 0)
def spec_OpsOk.l2 : Nat → List (S128) → ByteArray → Int → Int → Option (Bool)
  | 0, _, _, _, _ => none
  | k + 1, x0, x3, x4, x7 => if x7 < x4 then (if 0 ≤ x7 then (if x7 < (x0.length : Int) then (if 0 ≤ x4 then (if x4 < (x0.length : Int) then (if ((rd_T128 x0 x7).f0).toList = ((rd_T128 x0 x4).f0).toList then (some false) else (if ((rd_T128 x0 x7).f1) = ((rd_T128 x0 x4).f1) then (if (((rd_T128 x0 x7).f2) != ((rd_T128 x0 x4).f2)) = true then (some false) else (spec_OpsOk.l2 k x0 x3 x4 (wrap64 (x7 + 1)))) else (spec_OpsOk.l2 k x0 x3 x4 (wrap64 (x7 + 1))))) else (none)) else (none)) else (none)) else (none)) else (spec_OpsOk.l0 k x0 x3 (wrap64 (x4 + 1)))
end
def spec_OpsOk.f (k : Nat) (l0 : List (S128)) : Option (Bool) := spec_OpsOk.l0 k l0 (⟨#[43, 45, 42, 94, 60, 62, 61, 44]⟩ : ByteArray) 0
theorem spec_OpsOk.mono_l : ∀ k, (∀ y0 y1 y2, LeO (spec_OpsOk.l0 k y0 y1 y2) (spec_OpsOk.l0 (k + 1) y0 y1 y2)) ∧ (∀ y0 y1 y2 y3 y4, LeO (spec_OpsOk.l1 k y0 y1 y2 y3 y4) (spec_OpsOk.l1 (k + 1) y0 y1 y2 y3 y4)) ∧ (∀ y0 y1 y2 y3, LeO (spec_OpsOk.j2 k y0 y1 y2 y3) (spec_OpsOk.j2 (k + 1) y0 y1 y2 y3)) ∧ (∀ y0 y1 y2 y3, LeO (spec_OpsOk.l2 k y0 y1 y2 y3) (spec_OpsOk.l2 (k + 1) y0 y1 y2 y3))
  | 0 => ⟨fun _ _ _ r h => by simp [spec_OpsOk.l0] at h, fun _ _ _ _ _ r h => by simp [spec_OpsOk.l1] at h, fun _ _ _ _ r h => by simp [spec_OpsOk.j2] at h, fun _ _ _ _ r h => by simp [spec_OpsOk.l2] at h⟩
  | k + 1 => by
    obtain ⟨ih0, ih1, ih2, ih3⟩ := spec_OpsOk.mono_l k
    refine ⟨?_, ?_, ?_, ?_⟩
    · intro y0 y1 y2
      unfold spec_OpsOk.l0
      repeat' first
      | (with_reducible exact ih0 _ _ _)
      | (with_reducible exact ih1 _ _ _ _ _)
      | (with_reducible exact ih2 _ _ _ _)
      | (with_reducible exact ih3 _ _ _ _)
      | (with_reducible exact LeO.refl _)
      | (with_reducible exact LeO.none _)
      | (with_reducible refine LeO.ite ?_ ?_)
      | (with_reducible refine LeO.bind ?_ (fun _ => ?_))
      | exact ih0 _ _ _
      | exact ih1 _ _ _ _ _
      | exact ih2 _ _ _ _
      | exact ih3 _ _ _ _
      | exact LeO.none _
      | refine LeO.ite ?_ ?_
      | refine LeO.bind ?_ (fun _ => ?_)
    · intro y0 y1 y2 y3 y4
      unfold spec_OpsOk.l1
      repeat' first
      | (with_reducible exact ih0 _ _ _)
      | (with_reducible exact ih1 _ _ _ _ _)
      | (with_reducible exact ih2 _ _ _ _)
      | (with_reducible exact ih3 _ _ _ _)
      | (with_reducible exact LeO.refl _)
      | (with_reducible exact LeO.none _)
      | (with_reducible refine LeO.ite ?_ ?_)
      | (with_reducible refine LeO.bind ?_ (fun _ => ?_))
      | exact ih0 _ _ _
      | exact ih1 _ _ _ _ _
      | exact ih2 _ _ _ _
      | exact ih3 _ _ _ _
      | exact LeO.none _
      | refine LeO.ite ?_ ?_
      | refine LeO.bind ?_ (fun _ => ?_)
    · intro y0 y1 y2 y3
      unfold spec_OpsOk.j2
      repeat' first
      | (with_reducible exact ih0 _ _ _)
      | (with_reducible exact ih1 _ _ _ _ _)
      | (with_reducible exact ih2 _ _ _ _)
      | (with_reducible exact ih3 _ _ _ _)
      | (with_reducible exact LeO.refl _)
      | (with_reducible exact LeO.none _)
      | (with_reducible refine LeO.ite ?_ ?_)
      | (with_reducible refine LeO.bind ?_ (fun _ => ?_))
      | exact ih0 _ _ _
      | exact ih1 _ _ _ _ _
      | exact ih2 _ _ _ _
      | exact ih3 _ _ _ _
      | exact LeO.none _
      | refine LeO.ite ?_ ?_
      | refine LeO.bind ?_ (fun _ => ?_)
    · intro y0 y1 y2 y3
      unfold spec_OpsOk.l2
      repeat' first
      | (with_reducible exact ih0 _ _ _)
      | (with_reducible exact ih1 _ _ _ _ _)
      | (with_reducible exact ih2 _ _ _ _)
      | (with_reducible exact ih3 _ _ _ _)
      | (with_reducible exact LeO.refl _)
      | (with_reducible exact LeO.none _)
      | (with_reducible refine LeO.ite ?_ ?_)
      | (with_reducible refine LeO.bind ?_ (fun _ => ?_))
      | exact ih0 _ _ _
      | exact ih1 _ _ _ _ _
      | exact ih2 _ _ _ _
      | exact ih3 _ _ _ _
      | exact LeO.none _
      | refine LeO.ite ?_ ?_
      | refine LeO.bind ?_ (fun _ => ?_)
theorem spec_OpsOk.mono : ∀ a0 k, LeO (spec_OpsOk.f k a0) (spec_OpsOk.f (k + 1) a0) := by
  intro a0 k
  obtain ⟨ih0, ih1, ih2, ih3⟩ := spec_OpsOk.mono_l k
  unfold spec_OpsOk.f
  repeat' first
      | (with_reducible exact ih0 _ _ _)
      | (with_reducible exact ih1 _ _ _ _ _)
      | (with_reducible exact ih2 _ _ _ _)
      | (with_reducible exact ih3 _ _ _ _)
      | (with_reducible exact LeO.refl _)
      | (with_reducible exact LeO.none _)
      | (with_reducible refine LeO.ite ?_ ?_)
      | (with_reducible refine LeO.bind ?_ (fun _ => ?_))
      | exact ih0 _ _ _
      | exact ih1 _ _ _ _ _
      | exact ih2 _ _ _ _
      | exact ih3 _ _ _ _
      | exact LeO.none _
      | refine LeO.ite ?_ ?_
      | refine LeO.bind ?_ (fun _ => ?_)
set_option maxHeartbeats 8000000 in
set_option maxRecDepth 100000 in
theorem spec_OpsOk.calls (k : Nat) (A0 : Option Addr) (c0 : Nat) (l0 : List (S128)) (r : Bool) (w : World) (hr0 : Kd.C k128 w A0 l0.length l0) (hc0 : l0.length ≤ c0) (h : spec_OpsOk.f k l0 = some r) :
    Calls Try.prog 93 #[.slice A0 l0.length c0] w fun e w' => e = .returned (.bool r) ∧ Drawn0 w w' := by
  have HR0 := Aside0.mk hr0
  have HC0 := Aside0.mk hc0
  clear hr0 hc0
  have H : (spec_OpsOk.l0 k l0 (⟨#[43, 45, 42, 94, 60, 62, 61, 44]⟩ : ByteArray) 0) = some r := h
  clear h
  have H' := Aside0.mk H
  clear H
  go_enter Try.func93, Try.ntmps93
  go_wp2
  repeat (go_quiet (fail); try go_wp2)
  go_loopg [4] k (fun kq v4 w' => ∃ (x4_1 : Int), v4 = .int .i64 x4_1 ∧ Aside0 (spec_OpsOk.l0 kq l0 (⟨#[43, 45, 42, 94, 60, 62, 61, 44]⟩ : ByteArray) x4_1 = some r) ∧ Aside0 (kq ≤ k) ∧ Drawn0 w w')
  case atStart => exact ⟨(0), (by first | rfl | (simp; done) | (simp [*]; done) | (simp [isE0, isE1]; done)), H', ⟨Nat.le_refl _⟩, by repeat (first | exact Drawn0.refl _ | apply Drawn0.step)⟩
  case round =>
    clear H'
    obtain ⟨x4_1, rfl, HA, HK1, ⟨m1, rfl⟩⟩ := hrel
    cases gk with
    | zero => exact absurd HA.out (by simp [spec_OpsOk.l0])
    | succ k1 =>
      have H := HA.out
      clear HA
      simp only [spec_OpsOk.l0] at H
      by_cases c2 : x4_1 < (l0.length : Int)
      · rw [if_pos c2] at H
        have c2b0 : decide (x4_1 < (l0.length : Int)) = true := decide_eq_true c2
        clear c2
        have H' := Aside0.mk H
        clear H
        go_wp2
        repeat (go_quiet (fail); try go_wp2)
        go_loopg [5, 6] k1 (fun kq v5 v6 w' => ∃ (x5_2 : Bool) (x6_2 : Int), v5 = .bool x5_2 ∧ v6 = .int .i64 x6_2 ∧ Aside0 (spec_OpsOk.l1 kq l0 (⟨#[43, 45, 42, 94, 60, 62, 61, 44]⟩ : ByteArray) x4_1 x5_2 x6_2 = some r) ∧ Aside0 (kq ≤ k1) ∧ Drawn0 w w')
        case atStart => exact ⟨(false), (0), (by first | rfl | (simp; done) | (simp [*]; done) | (simp [isE0, isE1]; done)), (by first | rfl | (simp; done) | (simp [*]; done) | (simp [isE0, isE1]; done)), H', ⟨Nat.le_refl _⟩, by repeat (first | exact Drawn0.refl _ | apply Drawn0.step)⟩
        case round =>
          clear H'
          try clear c2
          try clear c2b0
          try clear p2
          obtain ⟨x5_2, x6_2, rfl, rfl, HA, HK2, ⟨m2, rfl⟩⟩ := hrel
          cases gk with
          | zero => exact absurd HA.out (by simp [spec_OpsOk.l1])
          | succ k2 =>
            have H := HA.out
            clear HA
            simp only [spec_OpsOk.l1] at H
            by_cases c3 : x6_2 < ((⟨#[43, 45, 42, 94, 60, 62, 61, 44]⟩ : ByteArray).size : Int)
            · rw [if_pos c3] at H
              have c3b0 : decide (x6_2 < ((⟨#[43, 45, 42, 94, 60, 62, 61, 44]⟩ : ByteArray).size : Int)) = true := decide_eq_true c3
              try have c3b0z : decide (x6_2 < 8) = true := decide_eq_true c3
              (try (have c3b1 : decide (x6_2 < 8) = true := decide_eq_true c3))
              clear c3
              by_cases c4 : x5_2 = true
              · subst c4
                have H1 : (spec_OpsOk.l1 k2 l0 (⟨#[43, 45, 42, 94, 60, 62, 61, 44]⟩ : ByteArray) x4_1 true (wrap64 (x6_2 + 1))) = some r := by rw [if_pos rfl] at H; exact H
                clear H
                have H := H1
                clear H1
                have H' := Aside0.mk H
                clear H
                go_wp2
                repeat (go_quiet (fail); try go_wp2)
                go_roundg k2
                case measure => have := HK1.out; have := HK2.out; omega
                case rel => exact ⟨(true), (wrap64 (x6_2 + 1)), (by first | rfl | (simp; done) | (simp [*]; done) | (simp [isE0, isE1]; done)), (by first | rfl | (simp; done) | (simp [*]; done) | (simp [isE0, isE1]; done)), H', ⟨by have := HK1.out; have := HK2.out; omega⟩, by repeat (first | exact Drawn0.refl _ | apply Drawn0.step)⟩
              · replace c4 := Bool.eq_false_iff.mpr c4
                subst c4
                have H1 : (if 0 ≤ x4_1 then (if x4_1 < (l0.length : Int) then (if 0 ≤ x6_2 then (if x6_2 ≤ (wrap64 (x6_2 + 1)) then (if (wrap64 (x6_2 + 1)) ≤ ((⟨#[43, 45, 42, 94, 60, 62, 61, 44]⟩ : ByteArray).size : Int) then (spec_OpsOk.l1 k2 l0 (⟨#[43, 45, 42, 94, 60, 62, 61, 44]⟩ : ByteArray) x4_1 (((rd_T128 l0 x4_1).f0).toList == ((⟨#[43, 45, 42, 94, 60, 62, 61, 44]⟩ : ByteArray).extract (x6_2 : Int).toNat ((wrap64 (x6_2 + 1)) : Int).toNat).toList) (wrap64 (x6_2 + 1))) else (none)) else (none)) else (none)) else (none)) else (none)) = some r := by rw [if_neg (show ¬ (false = true) by decide)] at H; exact H
                clear H
                have H := H1
                clear H1
                by_cases c5 : 0 ≤ x4_1
                · rw [if_pos c5] at H
                  have c5b0 : decide (0 ≤ x4_1) = true := decide_eq_true c5
                  clear c5
                  by_cases c6 : x4_1 < (l0.length : Int)
                  · rw [if_pos c6] at H
                    have c6b0 : decide (x4_1 < (l0.length : Int)) = true := decide_eq_true c6
                    clear c6
                    by_cases c7 : 0 ≤ x6_2
                    · rw [if_pos c7] at H
                      have c7b0 := eq_true c7
                      have c7b1 : decide (0 ≤ x6_2) = true := decide_eq_true c7
                      clear c7
                      by_cases c8 : x6_2 ≤ (wrap64 (x6_2 + 1))
                      · rw [if_pos c8] at H
                        have c8b0 := eq_true c8
                        have c8b1 : decide (x6_2 ≤ (wrap64 (x6_2 + 1))) = true := decide_eq_true c8
                        by_cases c9 : (wrap64 (x6_2 + 1)) ≤ ((⟨#[43, 45, 42, 94, 60, 62, 61, 44]⟩ : ByteArray).size : Int)
                        · rw [if_pos c9] at H
                          have c9b0 := eq_true c9
                          try have c9z0 : ((wrap64 (x6_2 + 1)) ≤ 8) = True := eq_true c9
                          have c9b1 : decide ((wrap64 (x6_2 + 1)) ≤ ((⟨#[43, 45, 42, 94, 60, 62, 61, 44]⟩ : ByteArray).size : Int)) = true := decide_eq_true c9
                          try have c9b1z : decide ((wrap64 (x6_2 + 1)) ≤ 8) = true := decide_eq_true c9
                          have H' := Aside0.mk H
                          clear H
                          have p160 : 0 ≤ (x4_1 : Int) := oa
                          have q160 : x4_1 < (l0.length : Int) := oa
                          obtain ⟨ad160, e160, hx160_0, hx160_1, hx160_2⟩ := at_T128 HR0.out x4_1 p160 q160
                          cases e160
                          replace p160 := eq_true p160
                          replace q160 := eq_true q160
                          go_wp2
                          repeat (go_quiet (fail); try go_wp2)
                          go_roundg k2
                          case measure => have := HK1.out; have := HK2.out; omega
                          case rel => exact ⟨((((rd_T128 l0 x4_1).f0).toList == ((⟨#[43, 45, 42, 94, 60, 62, 61, 44]⟩ : ByteArray).extract (x6_2 : Int).toNat ((wrap64 (x6_2 + 1)) : Int).toNat).toList)), (wrap64 (x6_2 + 1)), (by first | rfl | (simp; done) | (simp [*]; done) | (simp [isE0, isE1]; done)), (by first | rfl | (simp; done) | (simp [*]; done) | (simp [isE0, isE1]; done)), H', ⟨by have := HK1.out; have := HK2.out; omega⟩, by repeat (first | exact Drawn0.refl _ | apply Drawn0.step)⟩
                        · rw [if_neg c9] at H
                          exact absurd H (by simp)
                      · rw [if_neg c8] at H
                        exact absurd H (by simp)
                    · rw [if_neg c7] at H
                      exact absurd H (by simp)
                  · rw [if_neg c6] at H
                    exact absurd H (by simp)
                · rw [if_neg c5] at H
                  exact absurd H (by simp)
            · rw [if_neg c3] at H
              have c3b0 : decide (x6_2 < ((⟨#[43, 45, 42, 94, 60, 62, 61, 44]⟩ : ByteArray).size : Int)) = false := decide_eq_false c3
              try have c3b0z : decide (x6_2 < 8) = false := decide_eq_false c3
              (try (have c3b1 : decide (x6_2 < 8) = false := decide_eq_false c3))
              clear c3
              have HC10 := Aside0.mk H
              clear H
              go_upto_region 10 with (fail)
              repeat (go_quiet (fail); go_upto_region 10 with (fail))
              go_cut [44] (fun v44 wc => ∃ (kq : Nat) (x44_9 : Bool), v44 = .bool x44_9 ∧ Aside0 (spec_OpsOk.j2 kq l0 (⟨#[43, 45, 42, 94, 60, 62, 61, 44]⟩ : ByteArray) x4_1 x44_9 = some r) ∧ Aside0 (kq ≤ k2) ∧ Drawn0 w wc)
              case first =>
                have H := HC10.out
                clear HC10
                by_cases c11 : x5_2 = true
                · subst c11
                  have H1 : (if 0 ≤ x4_1 then (if x4_1 < (l0.length : Int) then ((spec_l01In.f ((rd_T128 l0 x4_1).f1) 1 9).bind fun t162 => (spec_OpsOk.j2 k2 l0 (⟨#[43, 45, 42, 94, 60, 62, 61, 44]⟩ : ByteArray) x4_1 (!t162))) else (none)) else (none)) = some r := by rw [if_pos rfl] at H; exact H
                  clear H
                  have H := H1
                  clear H1
                  by_cases c12 : 0 ≤ x4_1
                  · rw [if_pos c12] at H
                    have c12b0 : decide (0 ≤ x4_1) = true := decide_eq_true c12
                    clear c12
                    (first | rw [c12b0] | (simp only [i64_w, i32_w]; rw [c12b0]) | skip)
                    by_cases c13 : x4_1 < (l0.length : Int)
                    · rw [if_pos c13] at H
                      have c13b0 : decide (x4_1 < (l0.length : Int)) = true := decide_eq_true c13
                      clear c13
                      replace H := Option.bind_eq_some_iff.mp H
                      obtain ⟨t162, A140, H⟩ := H
                      replace H : (spec_OpsOk.j2 k2 l0 (⟨#[43, 45, 42, 94, 60, 62, 61, 44]⟩ : ByteArray) x4_1 (!t162)) = some r := H
                      have A14 := Aside0.mk A140
                      clear A140
                      have H' := Aside0.mk H
                      clear H
                      have p161 : 0 ≤ (x4_1 : Int) := oa
                      have q161 : x4_1 < (l0.length : Int) := oa
                      obtain ⟨ad161, e161, hx161_0, hx161_1, hx161_2⟩ := at_T128 HR0.out x4_1 p161 q161
                      cases e161
                      replace p161 := eq_true p161
                      replace q161 := eq_true q161
                      go_wp2_with (first | (go_at_call 70; (with_reducible refine (spec_l01In.calls ((rd_T128 l0 x4_1).f1) 1 9 t162 _ A14.out).mono ?_); rintro e w' ⟨rfl, ⟨nd, rfl⟩⟩; (try first | exact ⟨rfl, _, World.drewN_drewN _ _ _⟩ | exact ⟨rfl, _, Eq.trans (World.drewN_drewN _ _ _) (congrArg (World.drewN _) (Nat.add_assoc _ _ _))⟩)))
                      repeat (go_quiet (first | (go_at_call 70; (with_reducible refine (spec_l01In.calls ((rd_T128 l0 x4_1).f1) 1 9 t162 _ A14.out).mono ?_); rintro e w' ⟨rfl, ⟨nd, rfl⟩⟩; (try first | exact ⟨rfl, _, World.drewN_drewN _ _ _⟩ | exact ⟨rfl, _, Eq.trans (World.drewN_drewN _ _ _) (congrArg (World.drewN _) (Nat.add_assoc _ _ _))⟩))); try go_wp2_with (first | (go_at_call 70; (with_reducible refine (spec_l01In.calls ((rd_T128 l0 x4_1).f1) 1 9 t162 _ A14.out).mono ?_); rintro e w' ⟨rfl, ⟨nd, rfl⟩⟩; (try first | exact ⟨rfl, _, World.drewN_drewN _ _ _⟩ | exact ⟨rfl, _, Eq.trans (World.drewN_drewN _ _ _) (congrArg (World.drewN _) (Nat.add_assoc _ _ _))⟩))))
                      go_meet
                      case rel => exact ⟨_, (!t162), (by first | rfl | (simp; done) | (simp [*]; done) | (simp [isE0, isE1]; done)), H', ⟨by have := HK1.out; have := HK2.out; first | omega | exact Nat.le_refl _⟩, by repeat (first | exact Drawn0.refl _ | apply Drawn0.step)⟩
                    · rw [if_neg c13] at H
                      exact absurd H (by simp)
                  · rw [if_neg c12] at H
                    exact absurd H (by simp)
                · replace c11 := Bool.eq_false_iff.mpr c11
                  subst c11
                  have H1 : (spec_OpsOk.j2 k2 l0 (⟨#[43, 45, 42, 94, 60, 62, 61, 44]⟩ : ByteArray) x4_1 true) = some r := by rw [if_neg (show ¬ (false = true) by decide)] at H; exact H
                  clear H
                  have H := H1
                  clear H1
                  have H' := Aside0.mk H
                  clear H
                  go_wp2
                  repeat (go_quiet (fail); try go_wp2)
                  go_meet
                  case rel => exact ⟨_, (true), (by first | rfl | (simp; done) | (simp [*]; done) | (simp [isE0, isE1]; done)), H', ⟨by have := HK1.out; have := HK2.out; first | omega | exact Nat.le_refl _⟩, by repeat (first | exact Drawn0.refl _ | apply Drawn0.step)⟩
              case rest =>
                clear HC10
                try clear c1
                try clear p1
                try clear q1
                try clear hx1
                try clear c2
                try clear c2b0
                try clear p2
                try clear c3
                try clear c3b0
                try clear c3b1
                try clear c4
                try clear c5
                try clear c5b0
                try clear c6
                try clear c6b0
                try clear p6
                try clear c7
                try clear c7b0
                try clear c7b1
                try clear c8
                try clear c8b0
                try clear c8b1
                try clear c9
                try clear c9b0
                try clear c9b1
                try clear c11
                try clear c12
                try clear c12b0
                try clear c13
                try clear c13b0
                try clear hx160_0
                try clear hx160_1
                try clear hx160_2
                try clear hx161_0
                try clear hx161_1
                try clear hx161_2
                try clear p160
                try clear p161
                try clear p2
                try clear q160
                try clear q161
                obtain ⟨kq, x44_9, rfl, HA, HJ9, ⟨mc9, rfl⟩⟩ := hcut
                cases kq with
                | zero => exact absurd HA.out (by simp [spec_OpsOk.j2])
                | succ kj9 =>
                  have H := HA.out
                  clear HA
                  simp only [spec_OpsOk.j2] at H
                  by_cases c15 : x44_9 = true
                  · subst c15
                    have H1 : (some false) = some r := by rw [if_pos rfl] at H; exact H
                    clear H
                    have H := H1
                    clear H1
                    obtain rfl := Option.some.inj H
                    go_wp2
                    repeat (go_quiet (fail); try go_wp2)
                    go_ret
                    exact ⟨by first | rfl | (simp; done) | (simp [*]; done) | (simp [isE0, isE1]; done), by repeat (first | exact Drawn0.refl _ | apply Drawn0.step)⟩
                  · replace c15 := Bool.eq_false_iff.mpr c15
                    subst c15
                    have H1 : (spec_OpsOk.l2 kj9 l0 (⟨#[43, 45, 42, 94, 60, 62, 61, 44]⟩ : ByteArray) x4_1 0) = some r := by rw [if_neg (show ¬ (false = true) by decide)] at H; exact H
                    clear H
                    have H := H1
                    clear H1
                    have H' := Aside0.mk H
                    clear H
                    go_wp2
                    repeat (go_quiet (fail); try go_wp2)
                    go_loopg [7] kj9 (fun kq v7 w' => ∃ (x7_4 : Int), v7 = .int .i64 x7_4 ∧ Aside0 (spec_OpsOk.l2 kq l0 (⟨#[43, 45, 42, 94, 60, 62, 61, 44]⟩ : ByteArray) x4_1 x7_4 = some r) ∧ Aside0 (kq ≤ kj9) ∧ Drawn0 w w')
                    case atStart => exact ⟨(0), (by first | rfl | (simp; done) | (simp [*]; done) | (simp [isE0, isE1]; done)), H', ⟨Nat.le_refl _⟩, by repeat (first | exact Drawn0.refl _ | apply Drawn0.step)⟩
                    case round =>
                      clear H'
                      try clear c1
                      try clear p1
                      try clear q1
                      try clear hx1
                      try clear c2
                      try clear c2b0
                      try clear p2
                      try clear c3
                      try clear c3b0
                      try clear c3b1
                      try clear c4
                      try clear c5
                      try clear c5b0
                      try clear c6
                      try clear c6b0
                      try clear p6
                      try clear c7
                      try clear c7b0
                      try clear c7b1
                      try clear c8
                      try clear c8b0
                      try clear c8b1
                      try clear c9
                      try clear c9b0
                      try clear c9b1
                      try clear c11
                      try clear c12
                      try clear c12b0
                      try clear c13
                      try clear c13b0
                      try clear c15
                      try clear hx160_0
                      try clear hx160_1
                      try clear hx160_2
                      try clear hx161_0
                      try clear hx161_1
                      try clear hx161_2
                      try clear p1
                      try clear p160
                      try clear p161
                      try clear p2
                      try clear p6
                      try clear q1
                      try clear q160
                      try clear q161
                      obtain ⟨x7_4, rfl, HA, HK4, ⟨m4, rfl⟩⟩ := hrel
                      cases gk with
                      | zero => exact absurd HA.out (by simp [spec_OpsOk.l2])
                      | succ k4 =>
                        have H := HA.out
                        clear HA
                        simp only [spec_OpsOk.l2] at H
                        by_cases c16 : x7_4 < x4_1
                        · rw [if_pos c16] at H
                          have c16b0 : decide (x7_4 < x4_1) = true := decide_eq_true c16
                          clear c16
                          by_cases c17 : 0 ≤ x7_4
                          · rw [if_pos c17] at H
                            have c17b0 : decide (0 ≤ x7_4) = true := decide_eq_true c17
                            clear c17
                            by_cases c18 : x7_4 < (l0.length : Int)
                            · rw [if_pos c18] at H
                              have c18b0 : decide (x7_4 < (l0.length : Int)) = true := decide_eq_true c18
                              clear c18
                              by_cases c19 : 0 ≤ x4_1
                              · rw [if_pos c19] at H
                                have c19b0 : decide (0 ≤ x4_1) = true := decide_eq_true c19
                                clear c19
                                by_cases c20 : x4_1 < (l0.length : Int)
                                · rw [if_pos c20] at H
                                  have c20b0 : decide (x4_1 < (l0.length : Int)) = true := decide_eq_true c20
                                  clear c20
                                  by_cases c21 : ((rd_T128 l0 x7_4).f0).toList = ((rd_T128 l0 x4_1).f0).toList
                                  · rw [if_pos c21] at H
                                    have c21b0 : (((rd_T128 l0 x7_4).f0).toList == ((rd_T128 l0 x4_1).f0).toList) = true := beq_iff_eq.mpr c21
                                    have c21b1 : (((rd_T128 l0 x7_4).f0).toList != ((rd_T128 l0 x4_1).f0).toList) = false := bne_eq_false_iff_eq.mpr c21
                                    clear c21
                                    obtain rfl := Option.some.inj H
                                    have p163 : 0 ≤ (x7_4 : Int) := oa
                                    have q163 : x7_4 < (l0.length : Int) := oa
                                    obtain ⟨ad163, e163, hx163_0, hx163_1, hx163_2⟩ := at_T128 HR0.out x7_4 p163 q163
                                    cases e163
                                    replace p163 := eq_true p163
                                    replace q163 := eq_true q163
                                    have p164 : 0 ≤ (x4_1 : Int) := oa
                                    have q164 : x4_1 < (l0.length : Int) := oa
                                    obtain ⟨ad164, e164, hx164_0, hx164_1, hx164_2⟩ := at_T128 HR0.out x4_1 p164 q164
                                    obtain rfl : ad163 = ad164 := (by injection e164)
                                    replace p164 := eq_true p164
                                    replace q164 := eq_true q164
                                    go_wp2
                                    repeat (go_quiet (fail); try go_wp2)
                                    go_ret
                                    exact ⟨by first | rfl | (simp; done) | (simp [*]; done) | (simp [isE0, isE1]; done), by repeat (first | exact Drawn0.refl _ | apply Drawn0.step)⟩
                                  · rw [if_neg c21] at H
                                    have c21b0 : (((rd_T128 l0 x7_4).f0).toList == ((rd_T128 l0 x4_1).f0).toList) = false := beq_eq_false_iff_ne.mpr c21
                                    have c21b1 : (((rd_T128 l0 x7_4).f0).toList != ((rd_T128 l0 x4_1).f0).toList) = true := bne_iff_ne.mpr c21
                                    by_cases c22 : ((rd_T128 l0 x7_4).f1) = ((rd_T128 l0 x4_1).f1)
                                    · rw [if_pos c22] at H
                                      have c22b0 : (((rd_T128 l0 x7_4).f1) == ((rd_T128 l0 x4_1).f1)) = true := beq_iff_eq.mpr c22
                                      have c22b1 : (((rd_T128 l0 x7_4).f1) != ((rd_T128 l0 x4_1).f1)) = false := bne_eq_false_iff_eq.mpr c22
                                      clear c22
                                      by_cases c23 : (((rd_T128 l0 x7_4).f2) != ((rd_T128 l0 x4_1).f2)) = true
                                      · rw [if_pos c23] at H
                                        have c23b0 : (((rd_T128 l0 x7_4).f2) != ((rd_T128 l0 x4_1).f2)) = true := c23
                                        (try (have c23b1 : decide (((rd_T128 l0 x7_4).f2) = ((rd_T128 l0 x4_1).f2)) = false := by simpa using c23))
                                        (try (have c23b2 : (((rd_T128 l0 x7_4).f2) == ((rd_T128 l0 x4_1).f2)) = false := by simpa using c23))
                                        (try (have c23b3 : ¬ (((rd_T128 l0 x7_4).f2) = ((rd_T128 l0 x4_1).f2)) := by simpa using c23))
                                        clear c23
                                        obtain rfl := Option.some.inj H
                                        have p163 : 0 ≤ (x7_4 : Int) := oa
                                        have q163 : x7_4 < (l0.length : Int) := oa
                                        obtain ⟨ad163, e163, hx163_0, hx163_1, hx163_2⟩ := at_T128 HR0.out x7_4 p163 q163
                                        cases e163
                                        replace p163 := eq_true p163
                                        replace q163 := eq_true q163
                                        have p164 : 0 ≤ (x4_1 : Int) := oa
                                        have q164 : x4_1 < (l0.length : Int) := oa
                                        obtain ⟨ad164, e164, hx164_0, hx164_1, hx164_2⟩ := at_T128 HR0.out x4_1 p164 q164
                                        obtain rfl : ad163 = ad164 := (by injection e164)
                                        replace p164 := eq_true p164
                                        replace q164 := eq_true q164
                                        have p165 : 0 ≤ (x7_4 : Int) := oa
                                        have q165 : x7_4 < (l0.length : Int) := oa
                                        obtain ⟨ad165, e165, hx165_0, hx165_1, hx165_2⟩ := at_T128 HR0.out x7_4 p165 q165
                                        obtain rfl : ad163 = ad165 := (by injection e165)
                                        replace p165 := eq_true p165
                                        replace q165 := eq_true q165
                                        have p166 : 0 ≤ (x4_1 : Int) := oa
                                        have q166 : x4_1 < (l0.length : Int) := oa
                                        obtain ⟨ad166, e166, hx166_0, hx166_1, hx166_2⟩ := at_T128 HR0.out x4_1 p166 q166
                                        obtain rfl : ad163 = ad166 := (by injection e166)
                                        replace p166 := eq_true p166
                                        replace q166 := eq_true q166
                                        have p167 : 0 ≤ (x7_4 : Int) := oa
                                        have q167 : x7_4 < (l0.length : Int) := oa
                                        obtain ⟨ad167, e167, hx167_0, hx167_1, hx167_2⟩ := at_T128 HR0.out x7_4 p167 q167
                                        obtain rfl : ad163 = ad167 := (by injection e167)
                                        replace p167 := eq_true p167
                                        replace q167 := eq_true q167
                                        have p168 : 0 ≤ (x4_1 : Int) := oa
                                        have q168 : x4_1 < (l0.length : Int) := oa
                                        obtain ⟨ad168, e168, hx168_0, hx168_1, hx168_2⟩ := at_T128 HR0.out x4_1 p168 q168
                                        obtain rfl : ad163 = ad168 := (by injection e168)
                                        replace p168 := eq_true p168
                                        replace q168 := eq_true q168
                                        go_wp2
                                        repeat (go_quiet (fail); try go_wp2)
                                        go_ret
                                        exact ⟨by first | rfl | (simp; done) | (simp [*]; done) | (simp [isE0, isE1]; done), by repeat (first | exact Drawn0.refl _ | apply Drawn0.step)⟩
                                      · rw [if_neg c23] at H
                                        have c23b0 : (((rd_T128 l0 x7_4).f2) != ((rd_T128 l0 x4_1).f2)) = false := by simpa using c23
                                        (try (have c23b1 : decide (((rd_T128 l0 x7_4).f2) = ((rd_T128 l0 x4_1).f2)) = true := by simpa using c23))
                                        (try (have c23b2 : (((rd_T128 l0 x7_4).f2) == ((rd_T128 l0 x4_1).f2)) = true := by simpa using c23))
                                        clear c23
                                        have H' := Aside0.mk H
                                        clear H
                                        have p163 : 0 ≤ (x7_4 : Int) := oa
                                        have q163 : x7_4 < (l0.length : Int) := oa
                                        obtain ⟨ad163, e163, hx163_0, hx163_1, hx163_2⟩ := at_T128 HR0.out x7_4 p163 q163
                                        cases e163
                                        replace p163 := eq_true p163
                                        replace q163 := eq_true q163
                                        have p164 : 0 ≤ (x4_1 : Int) := oa
                                        have q164 : x4_1 < (l0.length : Int) := oa
                                        obtain ⟨ad164, e164, hx164_0, hx164_1, hx164_2⟩ := at_T128 HR0.out x4_1 p164 q164
                                        obtain rfl : ad163 = ad164 := (by injection e164)
                                        replace p164 := eq_true p164
                                        replace q164 := eq_true q164
                                        have p165 : 0 ≤ (x7_4 : Int) := oa
                                        have q165 : x7_4 < (l0.length : Int) := oa
                                        obtain ⟨ad165, e165, hx165_0, hx165_1, hx165_2⟩ := at_T128 HR0.out x7_4 p165 q165
                                        obtain rfl : ad163 = ad165 := (by injection e165)
                                        replace p165 := eq_true p165
                                        replace q165 := eq_true q165
                                        have p166 : 0 ≤ (x4_1 : Int) := oa
                                        have q166 : x4_1 < (l0.length : Int) := oa
                                        obtain ⟨ad166, e166, hx166_0, hx166_1, hx166_2⟩ := at_T128 HR0.out x4_1 p166 q166
                                        obtain rfl : ad163 = ad166 := (by injection e166)
                                        replace p166 := eq_true p166
                                        replace q166 := eq_true q166
                                        have p167 : 0 ≤ (x7_4 : Int) := oa
                                        have q167 : x7_4 < (l0.length : Int) := oa
                                        obtain ⟨ad167, e167, hx167_0, hx167_1, hx167_2⟩ := at_T128 HR0.out x7_4 p167 q167
                                        obtain rfl : ad163 = ad167 := (by injection e167)
                                        replace p167 := eq_true p167
                                        replace q167 := eq_true q167
                                        have p168 : 0 ≤ (x4_1 : Int) := oa
                                        have q168 : x4_1 < (l0.length : Int) := oa
                                        obtain ⟨ad168, e168, hx168_0, hx168_1, hx168_2⟩ := at_T128 HR0.out x4_1 p168 q168
                                        obtain rfl : ad163 = ad168 := (by injection e168)
                                        replace p168 := eq_true p168
                                        replace q168 := eq_true q168
                                        go_wp2
                                        repeat (go_quiet (fail); try go_wp2)
                                        go_roundg k4
                                        case measure => have := HK1.out; have := HK2.out; have := HJ9.out; have := HK4.out; omega
                                        case rel => exact ⟨(wrap64 (x7_4 + 1)), (by first | rfl | (simp; done) | (simp [*]; done) | (simp [isE0, isE1]; done)), H', ⟨by have := HK1.out; have := HK2.out; have := HJ9.out; have := HK4.out; omega⟩, by repeat (first | exact Drawn0.refl _ | apply Drawn0.step)⟩
                                    · rw [if_neg c22] at H
                                      have c22b0 : (((rd_T128 l0 x7_4).f1) == ((rd_T128 l0 x4_1).f1)) = false := beq_eq_false_iff_ne.mpr c22
                                      have c22b1 : (((rd_T128 l0 x7_4).f1) != ((rd_T128 l0 x4_1).f1)) = true := bne_iff_ne.mpr c22
                                      have H' := Aside0.mk H
                                      clear H
                                      have p163 : 0 ≤ (x7_4 : Int) := oa
                                      have q163 : x7_4 < (l0.length : Int) := oa
                                      obtain ⟨ad163, e163, hx163_0, hx163_1, hx163_2⟩ := at_T128 HR0.out x7_4 p163 q163
                                      cases e163
                                      replace p163 := eq_true p163
                                      replace q163 := eq_true q163
                                      have p164 : 0 ≤ (x4_1 : Int) := oa
                                      have q164 : x4_1 < (l0.length : Int) := oa
                                      obtain ⟨ad164, e164, hx164_0, hx164_1, hx164_2⟩ := at_T128 HR0.out x4_1 p164 q164
                                      obtain rfl : ad163 = ad164 := (by injection e164)
                                      replace p164 := eq_true p164
                                      replace q164 := eq_true q164
                                      have p165 : 0 ≤ (x7_4 : Int) := oa
                                      have q165 : x7_4 < (l0.length : Int) := oa
                                      obtain ⟨ad165, e165, hx165_0, hx165_1, hx165_2⟩ := at_T128 HR0.out x7_4 p165 q165
                                      obtain rfl : ad163 = ad165 := (by injection e165)
                                      replace p165 := eq_true p165
                                      replace q165 := eq_true q165
                                      have p166 : 0 ≤ (x4_1 : Int) := oa
                                      have q166 : x4_1 < (l0.length : Int) := oa
                                      obtain ⟨ad166, e166, hx166_0, hx166_1, hx166_2⟩ := at_T128 HR0.out x4_1 p166 q166
                                      obtain rfl : ad163 = ad166 := (by injection e166)
                                      replace p166 := eq_true p166
                                      replace q166 := eq_true q166
                                      go_wp2
                                      repeat (go_quiet (fail); try go_wp2)
                                      go_roundg k4
                                      case measure => have := HK1.out; have := HK2.out; have := HJ9.out; have := HK4.out; omega
                                      case rel => exact ⟨(wrap64 (x7_4 + 1)), (by first | rfl | (simp; done) | (simp [*]; done) | (simp [isE0, isE1]; done)), H', ⟨by have := HK1.out; have := HK2.out; have := HJ9.out; have := HK4.out; omega⟩, by repeat (first | exact Drawn0.refl _ | apply Drawn0.step)⟩
                                · rw [if_neg c20] at H
                                  exact absurd H (by simp)
                              · rw [if_neg c19] at H
                                exact absurd H (by simp)
                            · rw [if_neg c18] at H
                              exact absurd H (by simp)
                          · rw [if_neg c17] at H
                            exact absurd H (by simp)
                        · rw [if_neg c16] at H
                          have c16b0 : decide (x7_4 < x4_1) = false := decide_eq_false c16
                          clear c16
                          have H' := Aside0.mk H
                          clear H
                          go_wp2
                          repeat (go_quiet (fail); try go_wp2)
                          go_roundg k4
                          case measure => have := HK1.out; have := HK2.out; have := HJ9.out; have := HK4.out; omega
                          case rel => exact ⟨(wrap64 (x4_1 + 1)), (by first | rfl | (simp; done) | (simp [*]; done) | (simp [isE0, isE1]; done)), H', ⟨by have := HK1.out; have := HK2.out; have := HJ9.out; have := HK4.out; omega⟩, by repeat (first | exact Drawn0.refl _ | apply Drawn0.step)⟩
      · rw [if_neg c2] at H
        have c2b0 : decide (x4_1 < (l0.length : Int)) = false := decide_eq_false c2
        clear c2
        replace H := Option.bind_eq_some_iff.mp H
        obtain ⟨t159, A240, H⟩ := H
        replace H : (some t159) = some r := H
        have A24 := Aside0.mk A240
        clear A240
        obtain rfl := Option.some.inj H
        go_wp2_with (first | (go_at_call 70; (with_reducible refine (spec_l01In.calls (l0.length : Int) 1 6 t159 _ A24.out).mono ?_); rintro e w' ⟨rfl, ⟨nd, rfl⟩⟩; (try first | exact ⟨rfl, _, World.drewN_drewN _ _ _⟩ | exact ⟨rfl, _, Eq.trans (World.drewN_drewN _ _ _) (congrArg (World.drewN _) (Nat.add_assoc _ _ _))⟩)))
        repeat (go_quiet (first | (go_at_call 70; (with_reducible refine (spec_l01In.calls (l0.length : Int) 1 6 t159 _ A24.out).mono ?_); rintro e w' ⟨rfl, ⟨nd, rfl⟩⟩; (try first | exact ⟨rfl, _, World.drewN_drewN _ _ _⟩ | exact ⟨rfl, _, Eq.trans (World.drewN_drewN _ _ _) (congrArg (World.drewN _) (Nat.add_assoc _ _ _))⟩))); try go_wp2_with (first | (go_at_call 70; (with_reducible refine (spec_l01In.calls (l0.length : Int) 1 6 t159 _ A24.out).mono ?_); rintro e w' ⟨rfl, ⟨nd, rfl⟩⟩; (try first | exact ⟨rfl, _, World.drewN_drewN _ _ _⟩ | exact ⟨rfl, _, Eq.trans (World.drewN_drewN _ _ _) (congrArg (World.drewN _) (Nat.add_assoc _ _ _))⟩))))
        go_ret
        exact ⟨by first | rfl | (simp; done) | (simp [*]; done) | (simp [isE0, isE1]; done), by repeat (first | exact Drawn0.refl _ | apply Drawn0.step)⟩

end Go.Proofs.Ytlkbdoejeomlmaa.PFnExactClimb
