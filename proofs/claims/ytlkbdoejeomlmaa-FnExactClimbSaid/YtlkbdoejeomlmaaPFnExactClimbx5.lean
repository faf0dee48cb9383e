/- Written by a program of this session out of Lean's print of the translation: what the calls of these Go functions come to, in plain Lean. No condition. -/
import Derived.Test.YtlkbdoejeomlmaaPFnExactClimbx0
import Derived.Test.YtlkbdoejeomlmaaPFnExactClimbx3
import Derived.Test.YtlkbdoejeomlmaaPFnExactClimbx4
namespace Go.Proofs.Ytlkbdoejeomlmaa.PFnExactClimb
open Go.RowKit Go.Proofs.YtlkbdoejeomlmaaW.PrintWords Go.Proofs.YtlkbdoejeomlmaaW.PrintLast Go.Proofs.YtlkbdoejeomlmaaW.PrintMore
attribute [local go_sem] max2_int min2_int max_two min_two max_three min_three max_four min_four   -- for this text's walks alone
set_option linter.unusedVariables false
set_option linter.unusedSimpArgs false

/-! ### spec_l13Climb_climb: function 94 -/
mutual
def spec_l13Climb_climb.l0 : Nat → Int → ByteArray → List (S128) → ByteArray → Int → Bool → Option (ByteArray × ByteArray × Int × Bool)
  | 0, _, _, _, _, _, _ => none
  | k + 1, x1, x5, x1000, x1001, x1002, x1003 => (spec_l13Climb_op.f k x1000 x1001 x1002 x1003).bind fun bt201 => (if bt201.1 < 0 then (spec_l13Climb_climb.j1 k x1 x5 bt201.1 true x1000 bt201.2.1 bt201.2.2.1 bt201.2.2.2) else (if 0 ≤ bt201.1 then (if bt201.1 < (x1000.length : Int) then (spec_l13Climb_climb.j1 k x1 x5 bt201.1 (decide (((rd_T128 x1000 bt201.1).f1) < x1)) x1000 bt201.2.1 bt201.2.2.1 bt201.2.2.2) else (none)) else (none)))
def spec_l13Climb_climb.j1 : Nat → Int → ByteArray → Int → Bool → List (S128) → ByteArray → Int → Bool → Option (ByteArray × ByteArray × Int × Bool)
  | 0, _, _, _, _, _, _, _, _ => none
  | k + 1, x1, x5, x6, x26, x1000, x1001, x1002, x1003 => if x26 = true then (some (x5, x1001, x1002, x1003)) else (if 0 ≤ x6 then (if x6 < (x1000.length : Int) then (if (rd_T128 x1000 x6).f2 = true then ((spec_l13Climb_climb.f k x1000 x1001 (wrap64 (x1002 + 1)) x1003 ((rd_T128 x1000 x6).f1)).bind fun bt209 => (if bt209.2.2.2 = true then (some ((⟨#[]⟩ : ByteArray), bt209.2.1, bt209.2.2.1, bt209.2.2.2)) else (if 1 + x5.size ≤ 9223372036854775807 then (if ((⟨#[40]⟩ : ByteArray) ++ x5).size + ((rd_T128 x1000 x6).f0).size ≤ 9223372036854775807 then (if (((⟨#[40]⟩ : ByteArray) ++ x5) ++ ((rd_T128 x1000 x6).f0)).size + bt209.1.size ≤ 9223372036854775807 then (if ((((⟨#[40]⟩ : ByteArray) ++ x5) ++ ((rd_T128 x1000 x6).f0)) ++ bt209.1).size + 1 ≤ 9223372036854775807 then (spec_l13Climb_climb.l0 k x1 (((((⟨#[40]⟩ : ByteArray) ++ x5) ++ ((rd_T128 x1000 x6).f0)) ++ bt209.1) ++ (⟨#[41]⟩ : ByteArray)) x1000 bt209.2.1 bt209.2.2.1 bt209.2.2.2) else (none)) else (none)) else (none)) else (none)))) else ((spec_l13Climb_climb.f k x1000 x1001 (wrap64 (x1002 + 1)) x1003 (wrap64 (((rd_T128 x1000 x6).f1) + 1))).bind fun bt214 => (if bt214.2.2.2 = true then (some ((⟨#[]⟩ : ByteArray), bt214.2.1, bt214.2.2.1, bt214.2.2.2)) else (if 1 + x5.size ≤ 9223372036854775807 then (if ((⟨#[40]⟩ : ByteArray) ++ x5).size + ((rd_T128 x1000 x6).f0).size ≤ 9223372036854775807 then (if (((⟨#[40]⟩ : ByteArray) ++ x5) ++ ((rd_T128 x1000 x6).f0)).size + bt214.1.size ≤ 9223372036854775807 then (if ((((⟨#[40]⟩ : ByteArray) ++ x5) ++ ((rd_T128 x1000 x6).f0)) ++ bt214.1).size + 1 ≤ 9223372036854775807 then (spec_l13Climb_climb.l0 k x1 (((((⟨#[40]⟩ : ByteArray) ++ x5) ++ ((rd_T128 x1000 x6).f0)) ++ bt214.1) ++ (⟨#[41]⟩ : ByteArray)) x1000 bt214.2.1 bt214.2.2.1 bt214.2.2.2) else (none)) else (none)) else (none)) else (none))))) else (none)) else (none))
def spec_l13Climb_climb.f : Nat → List (S128) → ByteArray → Int → Bool → Int → Option (ByteArray × ByteArray × Int × Bool)
  | 0, _, _, _, _, _ => none
  | k + 1, s0_0, s0_1, s0_2, s0_3, a1 => (spec_l13Climb_atom.f (spec_l13Climb_climb.f k) k s0_0 s0_1 s0_2 s0_3).bind fun bt197 => (spec_l13Climb_climb.l0 k a1 bt197.1 s0_0 bt197.2.1 bt197.2.2.1 bt197.2.2.2)
end
theorem spec_l13Climb_climb.mono_l : ∀ k, (∀ y0 y1 y2 y3 y4, LeO (spec_l13Climb_climb.f k y0 y1 y2 y3 y4) (spec_l13Climb_climb.f (k + 1) y0 y1 y2 y3 y4)) ∧ (∀ y0 y1 y2 y3 y4 y5, LeO (spec_l13Climb_climb.l0 k y0 y1 y2 y3 y4 y5) (spec_l13Climb_climb.l0 (k + 1) y0 y1 y2 y3 y4 y5)) ∧ (∀ y0 y1 y2 y3 y4 y5 y6 y7, LeO (spec_l13Climb_climb.j1 k y0 y1 y2 y3 y4 y5 y6 y7) (spec_l13Climb_climb.j1 (k + 1) y0 y1 y2 y3 y4 y5 y6 y7))
  | 0 => ⟨fun _ _ _ _ _ r h => by simp [spec_l13Climb_climb.f] at h, fun _ _ _ _ _ _ r h => by simp [spec_l13Climb_climb.l0] at h, fun _ _ _ _ _ _ _ _ r h => by simp [spec_l13Climb_climb.j1] at h⟩
  | k + 1 => by
    obtain ⟨ih0, ih1, ih2⟩ := spec_l13Climb_climb.mono_l k
    refine ⟨?_, ?_, ?_⟩
    · intro y0 y1 y2 y3 y4
      unfold spec_l13Climb_climb.f
      repeat' first
      | (with_reducible exact ih0 _ _ _ _ _)
      | (with_reducible exact ih1 _ _ _ _ _ _)
      | (with_reducible exact ih2 _ _ _ _ _ _ _ _)
      | (with_reducible exact spec_l13Climb_atom.mono ih0 _ _ _ _ _)
      | (with_reducible exact spec_l13Climb_op.mono _ _ _ _ _)
      | (with_reducible exact LeO.refl _)
      | (with_reducible exact LeO.none _)
      | (with_reducible refine LeO.ite ?_ ?_)
      | (with_reducible refine LeO.bind ?_ (fun _ => ?_))
      | exact ih0 _ _ _ _ _
      | exact ih1 _ _ _ _ _ _
      | exact ih2 _ _ _ _ _ _ _ _
      | exact spec_l13Climb_atom.mono ih0 _ _ _ _ _
      | exact spec_l13Climb_op.mono _ _ _ _ _
      | exact LeO.none _
      | refine LeO.ite ?_ ?_
      | refine LeO.bind ?_ (fun _ => ?_)
    · intro y0 y1 y2 y3 y4 y5
      unfold spec_l13Climb_climb.l0
      repeat' first
      | (with_reducible exact ih0 _ _ _ _ _)
      | (with_reducible exact ih1 _ _ _ _ _ _)
      | (with_reducible exact ih2 _ _ _ _ _ _ _ _)
      | (with_reducible exact spec_l13Climb_atom.mono ih0 _ _ _ _ _)
      | (with_reducible exact spec_l13Climb_op.mono _ _ _ _ _)
      | (with_reducible exact LeO.refl _)
      | (with_reducible exact LeO.none _)
      | (with_reducible refine LeO.ite ?_ ?_)
      | (with_reducible refine LeO.bind ?_ (fun _ => ?_))
      | exact ih0 _ _ _ _ _
      | exact ih1 _ _ _ _ _ _
      | exact ih2 _ _ _ _ _ _ _ _
      | exact spec_l13Climb_atom.mono ih0 _ _ _ _ _
      | exact spec_l13Climb_op.mono _ _ _ _ _
      | exact LeO.none _
      | refine LeO.ite ?_ ?_
      | refine LeO.bind ?_ (fun _ => ?_)
    · intro y0 y1 y2 y3 y4 y5 y6 y7
      unfold spec_l13Climb_climb.j1
      repeat' first
      | (with_reducible exact ih0 _ _ _ _ _)
      | (with_reducible exact ih1 _ _ _ _ _ _)
      | (with_reducible exact ih2 _ _ _ _ _ _ _ _)
      | (with_reducible exact spec_l13Climb_atom.mono ih0 _ _ _ _ _)
      | (with_reducible exact spec_l13Climb_op.mono _ _ _ _ _)
      | (with_reducible exact LeO.refl _)
      | (with_reducible exact LeO.none _)
      | (with_reducible refine LeO.ite ?_ ?_)
      | (with_reducible refine LeO.bind ?_ (fun _ => ?_))
      | exact ih0 _ _ _ _ _
      | exact ih1 _ _ _ _ _ _
      | exact ih2 _ _ _ _ _ _ _ _
      | exact spec_l13Climb_atom.mono ih0 _ _ _ _ _
      | exact spec_l13Climb_op.mono _ _ _ _ _
      | exact LeO.none _
      | refine LeO.ite ?_ ?_
      | refine LeO.bind ?_ (fun _ => ?_)
theorem spec_l13Climb_climb.mono : ∀ a0 a1 a2 a3 a4 k, LeO (spec_l13Climb_climb.f k a0 a1 a2 a3 a4) (spec_l13Climb_climb.f (k + 1) a0 a1 a2 a3 a4) := by
  intro a0 a1 a2 a3 a4 k
  obtain ⟨ih0, ih1, ih2⟩ := spec_l13Climb_climb.mono_l k
  exact ih0 a0 a1 a2 a3 a4
set_option maxHeartbeats 8000000 in
set_option maxRecDepth 100000 in
theorem spec_l13Climb_climb.calls (k : Nat) : ∀ (g : Nat) (s0_0 : List (S128)) (s0_1 : ByteArray) (s0_2 : Int) (s0_3 : Bool) (a1 : Int) (r1 : ByteArray) (r2 : ByteArray) (r3 : Int) (r4 : Bool) (w0 w : World) (hI : IsS137 w0 w g s0_0 s0_1 s0_2 s0_3) (hB : Below w0.heap.size w0 w) (h : spec_l13Climb_climb.f k s0_0 s0_1 s0_2 s0_3 a1 = some (r1, r2, r3, r4)),
    Calls Try.prog 94 #[.pointer (some ⟨g, 0, none⟩), .int .i64 a1] w fun e w' => e = .returned (.string r1) ∧ IsS137 w0 w' g s0_0 r2 r3 r4 ∧ Below w0.heap.size w0 w' ∧ KeepBut w w' g none := by
  induction k using Nat.strongRecOn with
  | _ k ih =>
  intro g s0_0 s0_1 s0_2 s0_3 a1 r1 r2 r3 r4 w0 w hI hB h
  cases k with
  | zero => exact absurd h (by simp [spec_l13Climb_climb.f])
  | succ k =>
  simp only [spec_l13Climb_climb.f] at h
  have HI0 := Aside0.mk hI
  have HK := Aside0.mk (KeepBut.refl w g none)
  have HL := Aside0.mk hB.size
  clear hI
  have HW0 := Aside0.mk hB.size
  have HB := Aside0.mk hB
  clear hB
  have H : ((spec_l13Climb_atom.f (spec_l13Climb_climb.f k) k s0_0 s0_1 s0_2 s0_3).bind fun bt197 => (spec_l13Climb_climb.l0 k a1 bt197.1 s0_0 bt197.2.1 bt197.2.2.1 bt197.2.2.2)) = some (r1, r2, r3, r4) := h
  clear h
  replace H := Option.bind_eq_some_iff.mp H
  obtain ⟨⟨t197, t198, t199, t200⟩, A30, H⟩ := H
  replace H : (spec_l13Climb_climb.l0 k a1 t197 s0_0 t198 t199 t200) = some (r1, r2, r3, r4) := H
  have A3 := Aside0.mk A30
  clear A30
  have H' := Aside0.mk H
  clear H
  go_enter Try.func94, Try.ntmps94
  go_wp2_with (first | ((with_reducible refine gate_callee (f := 154) rfl ?_); refine goesL_ (some 10) rfl rfl Try.func154 (by kernel_rfl) rfl #[.pointer (some ⟨g, 0, none⟩)] rfl (by (try simp only [List.map_toArray, List.map_cons, List.map_nil]); first | done | rfl | (simp only [List.length_drop, List.length_take]; rfl)) ?_; (with_reducible refine (spec_l13Climb_atom.calls (spec_l13Climb_climb.f k) (ih k (by omega)) k g s0_0 s0_1 s0_2 s0_3 t197 t198 t199 t200 w0 _ ?side1 ?side2 A3.out).mono ?_); (case side1 => repeat (first | (with_reducible first | exact HI0.out | apply IsS137.alloc | apply IsS137.drewN | apply IsS137.drew | apply IsS137.set_1 | apply IsS137.set_2 | apply IsS137.set_3) | exact HI0.out)); (case side2 => repeat (first | (with_reducible first | exact HB.out | apply below_alloc | apply pw_below_drewN | apply below_drew1 | refine below_set ?_ (IsS137.ge HI0.out)) | exact HB.out)); rintro e w4 ⟨rfl, hi, hb, hk⟩; refine ⟨_, rfl, ?_⟩; have n0_ := Aside0.mk (KeepBut.trans (by repeat (first | (with_reducible first | exact HK.out | apply KeepBut.set_ | apply keep_drewN | apply keep_drew | apply keep_alloc) | exact HK.out)) hk (.inl rfl)); have n1_ := Aside0.mk (hb); have n2_ := Aside0.mk (hi); clear HK; clear HB; clear HI0; have HK := n0_; have HB := n1_; have HI0 := n2_; clear n0_ n1_ n2_; (try clear hb); (try clear hb2); (try clear hk); (try clear hi)))
  go_loopg [5] k (fun kq v5 w' => ∃ (x5_1 : ByteArray) (x1001_1 : ByteArray) (x1002_1 : Int) (x1003_1 : Bool), v5 = .string x5_1 ∧ Aside0 (spec_l13Climb_climb.l0 kq a1 x5_1 s0_0 x1001_1 x1002_1 x1003_1 = some (r1, r2, r3, r4)) ∧ Aside0 (kq ≤ k) ∧ Aside0 (IsS137 w0 w' g s0_0 x1001_1 x1002_1 x1003_1) ∧ Aside0 (KeepBut w w' g none) ∧ Aside0 (Below w0.heap.size w0 w'))
  case atStart => exact ⟨(t197), (t198), (t199), (t200), (by first | rfl | (simp; done) | (simp [*]; done) | (simp [isE0, isE1]; done)), H', ⟨Nat.le_refl _⟩, ⟨by repeat (first | (with_reducible first | exact HI0.out | apply IsS137.alloc | apply IsS137.drewN | apply IsS137.drew | apply IsS137.set_1 | apply IsS137.set_2 | apply IsS137.set_3) | exact HI0.out)⟩, ⟨by repeat (first | (with_reducible first | exact HK.out | apply KeepBut.set_ | apply keep_drewN | apply keep_drew | apply keep_alloc) | exact HK.out)⟩, ⟨by repeat (first | (with_reducible first | exact HB.out | apply below_alloc | apply pw_below_drewN | apply below_drew1 | refine below_set ?_ (IsS137.ge HI0.out)) | exact HB.out)⟩⟩
  case round =>
    clear H'
    try clear c1
    try clear p2
    obtain ⟨x5_1, x1001_1, x1002_1, x1003_1, rfl, HA, HK1, HI0, HK, HB⟩ := hrel
    cases gk with
    | zero => exact absurd HA.out (by simp [spec_l13Climb_climb.l0])
    | succ k1 =>
      have H := HA.out
      clear HA
      simp only [spec_l13Climb_climb.l0] at H
      replace H := Option.bind_eq_some_iff.mp H
      obtain ⟨⟨t201, t202, t203, t204⟩, A50, H⟩ := H
      replace H : (if t201 < 0 then (spec_l13Climb_climb.j1 k1 a1 x5_1 t201 true s0_0 t202 t203 t204) else (if 0 ≤ t201 then (if t201 < (s0_0.length : Int) then (spec_l13Climb_climb.j1 k1 a1 x5_1 t201 (decide (((rd_T128 s0_0 t201).f1) < a1)) s0_0 t202 t203 t204) else (none)) else (none))) = some (r1, r2, r3, r4) := H
      have A5 := Aside0.mk A50
      clear A50
      have HC6 := Aside0.mk H
      clear H
      go_upto_region 3 with (first | ((with_reducible refine gate_callee (f := 155) rfl ?_); refine goesL_ (some 12) rfl rfl Try.func155 (by kernel_rfl) rfl #[.pointer (some ⟨g, 0, none⟩)] rfl (by (try simp only [List.map_toArray, List.map_cons, List.map_nil]); first | done | rfl | (simp only [List.length_drop, List.length_take]; rfl)) ?_; (with_reducible refine (spec_l13Climb_op.calls k1 g s0_0 x1001_1 x1002_1 x1003_1 t201 t202 t203 t204 w0 _ ?side1 ?side2 A5.out).mono ?_); (case side1 => repeat (first | (with_reducible first | exact HI0.out | apply IsS137.alloc | apply IsS137.drewN | apply IsS137.drew | apply IsS137.set_1 | apply IsS137.set_2 | apply IsS137.set_3) | exact HI0.out)); (case side2 => repeat (first | (with_reducible first | exact HB.out | apply below_alloc | apply pw_below_drewN | apply below_drew1 | refine below_set ?_ (IsS137.ge HI0.out)) | exact HB.out)); rintro e w7 ⟨rfl, hi, hb, hk⟩; refine ⟨_, rfl, ?_⟩; have n0_ := Aside0.mk (KeepBut.trans (by repeat (first | (with_reducible first | exact HK.out | apply KeepBut.set_ | apply keep_drewN | apply keep_drew | apply keep_alloc) | exact HK.out)) hk (.inl rfl)); have n1_ := Aside0.mk (hb); have n2_ := Aside0.mk (hi); clear HK; clear HB; clear HI0; have HK := n0_; have HB := n1_; have HI0 := n2_; clear n0_ n1_ n2_; (try clear hb); (try clear hb2); (try clear hk); (try clear hi)))
      (try simp only [Act.put, List.setIfInBounds_toArray, List.set_cons_zero, List.set_cons_succ])
      go_cut [26] (fun v26 wc => ∃ (kq : Nat) (x26_5 : Bool), v26 = .bool x26_5 ∧ Aside0 (spec_l13Climb_climb.j1 kq a1 x5_1 t201 x26_5 s0_0 t202 t203 t204 = some (r1, r2, r3, r4)) ∧ Aside0 (kq ≤ k1) ∧ Aside0 (IsS137 w0 wc g s0_0 t202 t203 t204) ∧ Aside0 (KeepBut w wc g none) ∧ Aside0 (Below w0.heap.size w0 wc))
      case first =>
        have H := HC6.out
        clear HC6
        by_cases c8 : t201 < 0
        · rw [if_pos c8] at H
          have c8b0 : decide (t201 < 0) = true := decide_eq_true c8
          clear c8
          (first | rw [c8b0] | (simp only [i64_w, i32_w]; rw [c8b0]) | skip)
          have H' := Aside0.mk H
          clear H
          go_wp2
          go_meet
          case rel => exact ⟨_, (true), (by first | rfl | (simp; done) | (simp [*]; done) | (simp [isE0, isE1]; done)), H', ⟨by have := HK1.out; first | omega | exact Nat.le_refl _⟩, ⟨by repeat (first | (with_reducible first | exact HI0.out | apply IsS137.alloc | apply IsS137.drewN | apply IsS137.drew | apply IsS137.set_1 | apply IsS137.set_2 | apply IsS137.set_3) | exact HI0.out)⟩, ⟨by repeat (first | (with_reducible first | exact HK.out | apply KeepBut.set_ | apply keep_drewN | apply keep_drew | apply keep_alloc) | exact HK.out)⟩, ⟨by repeat (first | (with_reducible first | exact HB.out | apply below_alloc | apply pw_below_drewN | apply below_drew1 | refine below_set ?_ (IsS137.ge HI0.out)) | exact HB.out)⟩⟩
        · rw [if_neg c8] at H
          have c8b0 : decide (t201 < 0) = false := decide_eq_false c8
          clear c8
          (first | rw [c8b0] | (simp only [i64_w, i32_w]; rw [c8b0]) | skip)
          by_cases c9 : 0 ≤ t201
          · rw [if_pos c9] at H
            have c9b0 : decide (0 ≤ t201) = true := decide_eq_true c9
            clear c9
            by_cases c10 : t201 < (s0_0.length : Int)
            · rw [if_pos c10] at H
              have c10b0 : decide (t201 < (s0_0.length : Int)) = true := decide_eq_true c10
              clear c10
              have H' := Aside0.mk H
              clear H
              obtain ⟨ASz11_0, cSz11_0, HGz11, hgz11, HSz11_0⟩ := HI0.out
              have hcz11_0 := cellS137_0 HGz11
              have hcz11_1 := cellS137_1 HGz11
              have hcz11_2 := cellS137_2 HGz11
              have hcz11_3 := cellS137_3 HGz11
              have hfz11_1 := blk_frozen HGz11 1
              have hfz11_2 := blk_frozen HGz11 2
              have hfz11_3 := blk_frozen HGz11 3
              clear HGz11 hgz11
              have p205 : 0 ≤ (t201 : Int) := oa
              have q205 : t201 < (s0_0.length : Int) := oa
              obtain ⟨ad205, e205, hx205_0, hx205_1, hx205_2⟩ := at_T128 HSz11_0 t201 p205 q205
              cases e205
              replace hx205_0 := pw_cell_below HB.out hx205_0
              replace hx205_1 := pw_cell_below HB.out hx205_1
              replace hx205_2 := pw_cell_below HB.out hx205_2
              replace p205 := eq_true p205
              replace q205 := eq_true q205
              go_wp2
              go_meet
              case rel => exact ⟨_, (decide (((rd_T128 s0_0 t201).f1) < a1)), (by first | rfl | (simp; done) | (simp [*]; done) | (simp [isE0, isE1]; done)), H', ⟨by have := HK1.out; first | omega | exact Nat.le_refl _⟩, ⟨by repeat (first | (with_reducible first | exact HI0.out | apply IsS137.alloc | apply IsS137.drewN | apply IsS137.drew | apply IsS137.set_1 | apply IsS137.set_2 | apply IsS137.set_3) | exact HI0.out)⟩, ⟨by repeat (first | (with_reducible first | exact HK.out | apply KeepBut.set_ | apply keep_drewN | apply keep_drew | apply keep_alloc) | exact HK.out)⟩, ⟨by repeat (first | (with_reducible first | exact HB.out | apply below_alloc | apply pw_below_drewN | apply below_drew1 | refine below_set ?_ (IsS137.ge HI0.out)) | exact HB.out)⟩⟩
            · rw [if_neg c10] at H
              exact absurd H (by simp)
          · rw [if_neg c9] at H
            exact absurd H (by simp)
      case rest =>
        clear HC6
        try clear c1
        try clear p2
        try clear q2
        try clear hx2
        try clear c8
        try clear c8b0
        try clear c9
        try clear c9b0
        try clear c10
        try clear c10b0
        try clear hcz11_0
        try clear hcz11_1
        try clear hcz11_2
        try clear hcz11_3
        try clear hfz11_1
        try clear hfz11_2
        try clear hfz11_3
        try clear hx205_0
        try clear hx205_1
        try clear hx205_2
        try clear p2
        try clear p205
        try clear q205
        obtain ⟨kq, x26_5, rfl, HA, HJ5, HI0, HK, HB⟩ := hcut
        cases kq with
        | zero => exact absurd HA.out (by simp [spec_l13Climb_climb.j1])
        | succ kj5 =>
          have H := HA.out
          clear HA
          simp only [spec_l13Climb_climb.j1] at H
          by_cases c12 : x26_5 = true
          · subst c12
            have H1 : (some (x5_1, t202, t203, t204)) = some (r1, r2, r3, r4) := by rw [if_pos rfl] at H; exact H
            clear H
            have H := H1
            clear H1
            simp only [Option.some.injEq, Prod.mk.injEq] at H
            obtain ⟨rfl, rfl, rfl, rfl⟩ := H
            go_wp2
            go_ret
            exact ⟨by first | rfl | (simp [errW_none, errW_some] <;> rfl) | (simp [*, errW_none, errW_some] <;> rfl), by repeat (first | (with_reducible first | exact HI0.out | apply IsS137.alloc | apply IsS137.drewN | apply IsS137.drew | apply IsS137.set_1 | apply IsS137.set_2 | apply IsS137.set_3) | exact HI0.out), by repeat (first | (with_reducible first | exact HB.out | apply below_alloc | apply pw_below_drewN | apply below_drew1 | refine below_set ?_ (IsS137.ge HI0.out)) | exact HB.out), by repeat (first | (with_reducible first | exact HK.out | apply KeepBut.set_ | apply keep_drewN | apply keep_drew | apply keep_alloc) | exact HK.out)⟩
          · replace c12 := Bool.eq_false_iff.mpr c12
            subst c12
            have H1 : (if 0 ≤ t201 then (if t201 < (s0_0.length : Int) then (if (rd_T128 s0_0 t201).f2 = true then ((spec_l13Climb_climb.f kj5 s0_0 t202 (wrap64 (t203 + 1)) t204 ((rd_T128 s0_0 t201).f1)).bind fun bt209 => (if bt209.2.2.2 = true then (some ((⟨#[]⟩ : ByteArray), bt209.2.1, bt209.2.2.1, bt209.2.2.2)) else (if 1 + x5_1.size ≤ 9223372036854775807 then (if ((⟨#[40]⟩ : ByteArray) ++ x5_1).size + ((rd_T128 s0_0 t201).f0).size ≤ 9223372036854775807 then (if (((⟨#[40]⟩ : ByteArray) ++ x5_1) ++ ((rd_T128 s0_0 t201).f0)).size + bt209.1.size ≤ 9223372036854775807 then (if ((((⟨#[40]⟩ : ByteArray) ++ x5_1) ++ ((rd_T128 s0_0 t201).f0)) ++ bt209.1).size + 1 ≤ 9223372036854775807 then (spec_l13Climb_climb.l0 kj5 a1 (((((⟨#[40]⟩ : ByteArray) ++ x5_1) ++ ((rd_T128 s0_0 t201).f0)) ++ bt209.1) ++ (⟨#[41]⟩ : ByteArray)) s0_0 bt209.2.1 bt209.2.2.1 bt209.2.2.2) else (none)) else (none)) else (none)) else (none)))) else ((spec_l13Climb_climb.f kj5 s0_0 t202 (wrap64 (t203 + 1)) t204 (wrap64 (((rd_T128 s0_0 t201).f1) + 1))).bind fun bt214 => (if bt214.2.2.2 = true then (some ((⟨#[]⟩ : ByteArray), bt214.2.1, bt214.2.2.1, bt214.2.2.2)) else (if 1 + x5_1.size ≤ 9223372036854775807 then (if ((⟨#[40]⟩ : ByteArray) ++ x5_1).size + ((rd_T128 s0_0 t201).f0).size ≤ 9223372036854775807 then (if (((⟨#[40]⟩ : ByteArray) ++ x5_1) ++ ((rd_T128 s0_0 t201).f0)).size + bt214.1.size ≤ 9223372036854775807 then (if ((((⟨#[40]⟩ : ByteArray) ++ x5_1) ++ ((rd_T128 s0_0 t201).f0)) ++ bt214.1).size + 1 ≤ 9223372036854775807 then (spec_l13Climb_climb.l0 kj5 a1 (((((⟨#[40]⟩ : ByteArray) ++ x5_1) ++ ((rd_T128 s0_0 t201).f0)) ++ bt214.1) ++ (⟨#[41]⟩ : ByteArray)) s0_0 bt214.2.1 bt214.2.2.1 bt214.2.2.2) else (none)) else (none)) else (none)) else (none))))) else (none)) else (none)) = some (r1, r2, r3, r4) := by rw [if_neg (show ¬ (false = true) by decide)] at H; exact H
            clear H
            have H := H1
            clear H1
            by_cases c13 : 0 ≤ t201
            · rw [if_pos c13] at H
              have c13b0 : decide (0 ≤ t201) = true := decide_eq_true c13
              clear c13
              by_cases c14 : t201 < (s0_0.length : Int)
              · rw [if_pos c14] at H
                have c14b0 : decide (t201 < (s0_0.length : Int)) = true := decide_eq_true c14
                clear c14
                obtain ⟨bq15, hbq15⟩ : ∃ b_ : Bool, b_ = ((rd_T128 s0_0 t201).f2) := ⟨_, rfl⟩
                replace H : (if bq15 = true then ((spec_l13Climb_climb.f kj5 s0_0 t202 (wrap64 (t203 + 1)) t204 ((rd_T128 s0_0 t201).f1)).bind fun bt209 => (if bt209.2.2.2 = true then (some ((⟨#[]⟩ : ByteArray), bt209.2.1, bt209.2.2.1, bt209.2.2.2)) else (if 1 + x5_1.size ≤ 9223372036854775807 then (if ((⟨#[40]⟩ : ByteArray) ++ x5_1).size + ((rd_T128 s0_0 t201).f0).size ≤ 9223372036854775807 then (if (((⟨#[40]⟩ : ByteArray) ++ x5_1) ++ ((rd_T128 s0_0 t201).f0)).size + bt209.1.size ≤ 9223372036854775807 then (if ((((⟨#[40]⟩ : ByteArray) ++ x5_1) ++ ((rd_T128 s0_0 t201).f0)) ++ bt209.1).size + 1 ≤ 9223372036854775807 then (spec_l13Climb_climb.l0 kj5 a1 (((((⟨#[40]⟩ : ByteArray) ++ x5_1) ++ ((rd_T128 s0_0 t201).f0)) ++ bt209.1) ++ (⟨#[41]⟩ : ByteArray)) s0_0 bt209.2.1 bt209.2.2.1 bt209.2.2.2) else (none)) else (none)) else (none)) else (none)))) else ((spec_l13Climb_climb.f kj5 s0_0 t202 (wrap64 (t203 + 1)) t204 (wrap64 (((rd_T128 s0_0 t201).f1) + 1))).bind fun bt214 => (if bt214.2.2.2 = true then (some ((⟨#[]⟩ : ByteArray), bt214.2.1, bt214.2.2.1, bt214.2.2.2)) else (if 1 + x5_1.size ≤ 9223372036854775807 then (if ((⟨#[40]⟩ : ByteArray) ++ x5_1).size + ((rd_T128 s0_0 t201).f0).size ≤ 9223372036854775807 then (if (((⟨#[40]⟩ : ByteArray) ++ x5_1) ++ ((rd_T128 s0_0 t201).f0)).size + bt214.1.size ≤ 9223372036854775807 then (if ((((⟨#[40]⟩ : ByteArray) ++ x5_1) ++ ((rd_T128 s0_0 t201).f0)) ++ bt214.1).size + 1 ≤ 9223372036854775807 then (spec_l13Climb_climb.l0 kj5 a1 (((((⟨#[40]⟩ : ByteArray) ++ x5_1) ++ ((rd_T128 s0_0 t201).f0)) ++ bt214.1) ++ (⟨#[41]⟩ : ByteArray)) s0_0 bt214.2.1 bt214.2.2.1 bt214.2.2.2) else (none)) else (none)) else (none)) else (none))))) = some (r1, r2, r3, r4) := by rw [← hbq15] at H; exact H
                have Nbq15 := Aside0.mk hbq15
                clear hbq15
                by_cases c16 : bq15 = true
                · subst c16
                  have H1 : ((spec_l13Climb_climb.f kj5 s0_0 t202 (wrap64 (t203 + 1)) t204 ((rd_T128 s0_0 t201).f1)).bind fun bt209 => (if bt209.2.2.2 = true then (some ((⟨#[]⟩ : ByteArray), bt209.2.1, bt209.2.2.1, bt209.2.2.2)) else (if 1 + x5_1.size ≤ 9223372036854775807 then (if ((⟨#[40]⟩ : ByteArray) ++ x5_1).size + ((rd_T128 s0_0 t201).f0).size ≤ 9223372036854775807 then (if (((⟨#[40]⟩ : ByteArray) ++ x5_1) ++ ((rd_T128 s0_0 t201).f0)).size + bt209.1.size ≤ 9223372036854775807 then (if ((((⟨#[40]⟩ : ByteArray) ++ x5_1) ++ ((rd_T128 s0_0 t201).f0)) ++ bt209.1).size + 1 ≤ 9223372036854775807 then (spec_l13Climb_climb.l0 kj5 a1 (((((⟨#[40]⟩ : ByteArray) ++ x5_1) ++ ((rd_T128 s0_0 t201).f0)) ++ bt209.1) ++ (⟨#[41]⟩ : ByteArray)) s0_0 bt209.2.1 bt209.2.2.1 bt209.2.2.2) else (none)) else (none)) else (none)) else (none)))) = some (r1, r2, r3, r4) := by rw [if_pos rfl] at H; exact H
                  clear H
                  have H := H1
                  clear H1
                  replace H := Option.bind_eq_some_iff.mp H
                  obtain ⟨⟨t209, t210, t211, t212⟩, A170, H⟩ := H
                  replace H : (if t212 = true then (some ((⟨#[]⟩ : ByteArray), t210, t211, t212)) else (if 1 + x5_1.size ≤ 9223372036854775807 then (if ((⟨#[40]⟩ : ByteArray) ++ x5_1).size + ((rd_T128 s0_0 t201).f0).size ≤ 9223372036854775807 then (if (((⟨#[40]⟩ : ByteArray) ++ x5_1) ++ ((rd_T128 s0_0 t201).f0)).size + t209.size ≤ 9223372036854775807 then (if ((((⟨#[40]⟩ : ByteArray) ++ x5_1) ++ ((rd_T128 s0_0 t201).f0)) ++ t209).size + 1 ≤ 9223372036854775807 then (spec_l13Climb_climb.l0 kj5 a1 (((((⟨#[40]⟩ : ByteArray) ++ x5_1) ++ ((rd_T128 s0_0 t201).f0)) ++ t209) ++ (⟨#[41]⟩ : ByteArray)) s0_0 t210 t211 t212) else (none)) else (none)) else (none)) else (none))) = some (r1, r2, r3, r4) := H
                  have A17 := Aside0.mk A170
                  clear A170
                  by_cases c18 : t212 = true
                  · subst c18
                    have H1 : (some ((⟨#[]⟩ : ByteArray), t210, t211, true)) = some (r1, r2, r3, r4) := by rw [if_pos rfl] at H; exact H
                    clear H
                    have H := H1
                    clear H1
                    simp only [Option.some.injEq, Prod.mk.injEq] at H
                    obtain ⟨rfl, rfl, rfl, rfl⟩ := H
                    obtain ⟨ASz19_0, cSz19_0, HGz19, hgz19, HSz19_0⟩ := HI0.out
                    have hcz19_0 := cellS137_0 HGz19
                    have hcz19_1 := cellS137_1 HGz19
                    have hcz19_2 := cellS137_2 HGz19
                    have hcz19_3 := cellS137_3 HGz19
                    have hfz19_1 := blk_frozen HGz19 1
                    have hfz19_2 := blk_frozen HGz19 2
                    have hfz19_3 := blk_frozen HGz19 3
                    clear HGz19 hgz19
                    have p206 : 0 ≤ (t201 : Int) := oa
                    have q206 : t201 < (s0_0.length : Int) := oa
                    obtain ⟨ad206, e206, hx206_0, hx206_1, hx206_2⟩ := at_T128 HSz19_0 t201 p206 q206
                    (try rw [← Nbq15.out] at hx206_2)
                    cases e206
                    have hn206_0 : ad206.block ≠ g := Nat.ne_of_lt (Nat.lt_of_lt_of_le (by have := World.block_lt_of_cell? _ _ hx206_0; first | rwa [add_block] at this | exact this) (IsS137.ge HI0.out))
                    replace hx206_0 := pw_cell_below HB.out hx206_0
                    replace hx206_1 := pw_cell_below HB.out hx206_1
                    replace hx206_2 := pw_cell_below HB.out hx206_2
                    replace hx206_0 := fx ⟨g, 2, none⟩ (.int .i64 (wrap64 (t203 + 1))) hx206_0
                    replace hx206_1 := fx ⟨g, 2, none⟩ (.int .i64 (wrap64 (t203 + 1))) hx206_1
                    replace hx206_2 := fx ⟨g, 2, none⟩ (.int .i64 (wrap64 (t203 + 1))) hx206_2
                    clear hn206_0
                    replace p206 := eq_true p206
                    replace q206 := eq_true q206
                    have p207 : 0 ≤ (t201 : Int) := oa
                    have q207 : t201 < (s0_0.length : Int) := oa
                    obtain ⟨ad207, e207, hx207_0, hx207_1, hx207_2⟩ := at_T128 HSz19_0 t201 p207 q207
                    (try rw [← Nbq15.out] at hx207_2)
                    obtain rfl : ad206 = ad207 := (by injection e207)
                    have hn207_0 : ad206.block ≠ g := Nat.ne_of_lt (Nat.lt_of_lt_of_le (by have := World.block_lt_of_cell? _ _ hx207_0; first | rwa [add_block] at this | exact this) (IsS137.ge HI0.out))
                    replace hx207_0 := pw_cell_below HB.out hx207_0
                    replace hx207_1 := pw_cell_below HB.out hx207_1
                    replace hx207_2 := pw_cell_below HB.out hx207_2
                    replace hx207_0 := fx ⟨g, 2, none⟩ (.int .i64 (wrap64 (t203 + 1))) hx207_0
                    replace hx207_1 := fx ⟨g, 2, none⟩ (.int .i64 (wrap64 (t203 + 1))) hx207_1
                    replace hx207_2 := fx ⟨g, 2, none⟩ (.int .i64 (wrap64 (t203 + 1))) hx207_2
                    clear hn207_0
                    replace p207 := eq_true p207
                    replace q207 := eq_true q207
                    have p208 : 0 ≤ (t201 : Int) := oa
                    have q208 : t201 < (s0_0.length : Int) := oa
                    obtain ⟨ad208, e208, hx208_0, hx208_1, hx208_2⟩ := at_T128 HSz19_0 t201 p208 q208
                    (try rw [← Nbq15.out] at hx208_2)
                    obtain rfl : ad206 = ad208 := (by injection e208)
                    have hn208_0 : ad206.block ≠ g := Nat.ne_of_lt (Nat.lt_of_lt_of_le (by have := World.block_lt_of_cell? _ _ hx208_0; first | rwa [add_block] at this | exact this) (IsS137.ge HI0.out))
                    replace hx208_0 := pw_cell_below HB.out hx208_0
                    replace hx208_1 := pw_cell_below HB.out hx208_1
                    replace hx208_2 := pw_cell_below HB.out hx208_2
                    replace hx208_0 := fx ⟨g, 2, none⟩ (.int .i64 (wrap64 (t203 + 1))) hx208_0
                    replace hx208_1 := fx ⟨g, 2, none⟩ (.int .i64 (wrap64 (t203 + 1))) hx208_1
                    replace hx208_2 := fx ⟨g, 2, none⟩ (.int .i64 (wrap64 (t203 + 1))) hx208_2
                    clear hn208_0
                    replace p208 := eq_true p208
                    replace q208 := eq_true q208
                    go_wp2_with (first | ((with_reducible refine gate_callee (f := 94) rfl ?_); refine goesL_ (some 63) rfl rfl Try.func94 (by kernel_rfl) rfl #[.pointer (some ⟨g, 0, none⟩), .int .i64 ((rd_T128 s0_0 t201).f1)] rfl (by (try simp only [List.map_toArray, List.map_cons, List.map_nil]); first | done | rfl | (simp only [List.length_drop, List.length_take]; rfl)) ?_; (with_reducible refine (ih kj5 (by have := HK1.out; have := HJ5.out; omega) g s0_0 t202 (wrap64 (t203 + 1)) t204 ((rd_T128 s0_0 t201).f1) t209 t210 t211 true w0 _ ?side1 ?side2 A17.out).mono ?_); (case side1 => repeat (first | (with_reducible first | exact HI0.out | apply IsS137.alloc | apply IsS137.drewN | apply IsS137.drew | apply IsS137.set_1 | apply IsS137.set_2 | apply IsS137.set_3) | exact HI0.out)); (case side2 => repeat (first | (with_reducible first | exact HB.out | apply below_alloc | apply pw_below_drewN | apply below_drew1 | refine below_set ?_ (IsS137.ge HI0.out)) | exact HB.out)); rintro e w20 ⟨rfl, hi, hb, hk⟩; refine ⟨_, rfl, ?_⟩; have n0_ := Aside0.mk (KeepBut.trans (by repeat (first | (with_reducible first | exact HK.out | apply KeepBut.set_ | apply keep_drewN | apply keep_drew | apply keep_alloc) | exact HK.out)) hk (.inl rfl)); have n1_ := Aside0.mk (hb); have n2_ := Aside0.mk (hi); clear HK; clear HB; clear HI0; have HK := n0_; have HB := n1_; have HI0 := n2_; clear n0_ n1_ n2_; (try clear hb); (try clear hb2); (try clear hk); (try clear hi); obtain ⟨ASz21_0, cSz21_0, HGz21, hgz21, HSz21_0⟩ := HI0.out; have hcz21_0 := cellS137_0 HGz21; have hcz21_1 := cellS137_1 HGz21; have hcz21_2 := cellS137_2 HGz21; have hcz21_3 := cellS137_3 HGz21; have hfz21_1 := blk_frozen HGz21 1; have hfz21_2 := blk_frozen HGz21 2; have hfz21_3 := blk_frozen HGz21 3; clear HGz21 hgz21))
                    go_ret
                    exact ⟨by first | rfl | (simp [errW_none, errW_some] <;> rfl) | (simp [*, errW_none, errW_some] <;> rfl), by repeat (first | (with_reducible first | exact HI0.out | apply IsS137.alloc | apply IsS137.drewN | apply IsS137.drew | apply IsS137.set_1 | apply IsS137.set_2 | apply IsS137.set_3) | exact HI0.out), by repeat (first | (with_reducible first | exact HB.out | apply below_alloc | apply pw_below_drewN | apply below_drew1 | refine below_set ?_ (IsS137.ge HI0.out)) | exact HB.out), by repeat (first | (with_reducible first | exact HK.out | apply KeepBut.set_ | apply keep_drewN | apply keep_drew | apply keep_alloc) | exact HK.out)⟩
                  · replace c18 := Bool.eq_false_iff.mpr c18
                    subst c18
                    have H1 : (if 1 + x5_1.size ≤ 9223372036854775807 then (if ((⟨#[40]⟩ : ByteArray) ++ x5_1).size + ((rd_T128 s0_0 t201).f0).size ≤ 9223372036854775807 then (if (((⟨#[40]⟩ : ByteArray) ++ x5_1) ++ ((rd_T128 s0_0 t201).f0)).size + t209.size ≤ 9223372036854775807 then (if ((((⟨#[40]⟩ : ByteArray) ++ x5_1) ++ ((rd_T128 s0_0 t201).f0)) ++ t209).size + 1 ≤ 9223372036854775807 then (spec_l13Climb_climb.l0 kj5 a1 (((((⟨#[40]⟩ : ByteArray) ++ x5_1) ++ ((rd_T128 s0_0 t201).f0)) ++ t209) ++ (⟨#[41]⟩ : ByteArray)) s0_0 t210 t211 false) else (none)) else (none)) else (none)) else (none)) = some (r1, r2, r3, r4) := by rw [if_neg (show ¬ (false = true) by decide)] at H; exact H
                    clear H
                    have H := H1
                    clear H1
                    by_cases c22 : 1 + x5_1.size ≤ 9223372036854775807
                    · rw [if_pos c22] at H
                      have c22b0 := eq_true c22
                      have c22b1 : decide (1 + x5_1.size ≤ 9223372036854775807) = true := decide_eq_true c22
                      try have c22b2 : (9223372036854775807 < 1 + x5_1.size) = False := eq_false (Nat.not_lt.2 c22)
                      by_cases c23 : ((⟨#[40]⟩ : ByteArray) ++ x5_1).size + ((rd_T128 s0_0 t201).f0).size ≤ 9223372036854775807
                      · rw [if_pos c23] at H
                        have c23b0 := eq_true c23
                        have c23b1 : decide (((⟨#[40]⟩ : ByteArray) ++ x5_1).size + ((rd_T128 s0_0 t201).f0).size ≤ 9223372036854775807) = true := decide_eq_true c23
                        try (have c23s := c23; simp only [ByteArray.size_append] at c23s; replace c23s := eq_false (Nat.not_lt.2 c23s))
                        try (have c23n := c23; simp only [ByteArray.size_append] at c23n; simp only [show (⟨#[40]⟩ : ByteArray).size = 1 from rfl] at c23n; replace c23n := eq_false (Nat.not_lt.2 c23n))
                        try have c23b2 : (9223372036854775807 < ((⟨#[40]⟩ : ByteArray) ++ x5_1).size + ((rd_T128 s0_0 t201).f0).size) = False := eq_false (Nat.not_lt.2 c23)
                        by_cases c24 : (((⟨#[40]⟩ : ByteArray) ++ x5_1) ++ ((rd_T128 s0_0 t201).f0)).size + t209.size ≤ 9223372036854775807
                        · rw [if_pos c24] at H
                          have c24b0 := eq_true c24
                          have c24b1 : decide ((((⟨#[40]⟩ : ByteArray) ++ x5_1) ++ ((rd_T128 s0_0 t201).f0)).size + t209.size ≤ 9223372036854775807) = true := decide_eq_true c24
                          try (have c24s := c24; simp only [ByteArray.size_append] at c24s; replace c24s := eq_false (Nat.not_lt.2 c24s))
                          try (have c24n := c24; simp only [ByteArray.size_append] at c24n; simp only [show (⟨#[40]⟩ : ByteArray).size = 1 from rfl] at c24n; replace c24n := eq_false (Nat.not_lt.2 c24n))
                          try have c24b2 : (9223372036854775807 < (((⟨#[40]⟩ : ByteArray) ++ x5_1) ++ ((rd_T128 s0_0 t201).f0)).size + t209.size) = False := eq_false (Nat.not_lt.2 c24)
                          by_cases c25 : ((((⟨#[40]⟩ : ByteArray) ++ x5_1) ++ ((rd_T128 s0_0 t201).f0)) ++ t209).size + 1 ≤ 9223372036854775807
                          · rw [if_pos c25] at H
                            have c25b0 := eq_true c25
                            have c25b1 : decide (((((⟨#[40]⟩ : ByteArray) ++ x5_1) ++ ((rd_T128 s0_0 t201).f0)) ++ t209).size + 1 ≤ 9223372036854775807) = true := decide_eq_true c25
                            try (have c25s := c25; simp only [ByteArray.size_append] at c25s; replace c25s := eq_false (Nat.not_lt.2 c25s))
                            try (have c25n := c25; simp only [ByteArray.size_append] at c25n; simp only [show (⟨#[40]⟩ : ByteArray).size = 1 from rfl] at c25n; replace c25n := eq_false (Nat.not_lt.2 c25n))
                            try have c25b2 : (9223372036854775807 < ((((⟨#[40]⟩ : ByteArray) ++ x5_1) ++ ((rd_T128 s0_0 t201).f0)) ++ t209).size + 1) = False := eq_false (Nat.not_lt.2 c25)
                            have H' := Aside0.mk H
                            clear H
                            obtain ⟨ASz26_0, cSz26_0, HGz26, hgz26, HSz26_0⟩ := HI0.out
                            have hcz26_0 := cellS137_0 HGz26
                            have hcz26_1 := cellS137_1 HGz26
                            have hcz26_2 := cellS137_2 HGz26
                            have hcz26_3 := cellS137_3 HGz26
                            have hfz26_1 := blk_frozen HGz26 1
                            have hfz26_2 := blk_frozen HGz26 2
                            have hfz26_3 := blk_frozen HGz26 3
                            clear HGz26 hgz26
                            have p206 : 0 ≤ (t201 : Int) := oa
                            have q206 : t201 < (s0_0.length : Int) := oa
                            obtain ⟨ad206, e206, hx206_0, hx206_1, hx206_2⟩ := at_T128 HSz26_0 t201 p206 q206
                            (try rw [← Nbq15.out] at hx206_2)
                            cases e206
                            have hn206_0 : ad206.block ≠ g := Nat.ne_of_lt (Nat.lt_of_lt_of_le (by have := World.block_lt_of_cell? _ _ hx206_0; first | rwa [add_block] at this | exact this) (IsS137.ge HI0.out))
                            replace hx206_0 := pw_cell_below HB.out hx206_0
                            replace hx206_1 := pw_cell_below HB.out hx206_1
                            replace hx206_2 := pw_cell_below HB.out hx206_2
                            replace hx206_0 := fx ⟨g, 2, none⟩ (.int .i64 (wrap64 (t203 + 1))) hx206_0
                            replace hx206_1 := fx ⟨g, 2, none⟩ (.int .i64 (wrap64 (t203 + 1))) hx206_1
                            replace hx206_2 := fx ⟨g, 2, none⟩ (.int .i64 (wrap64 (t203 + 1))) hx206_2
                            clear hn206_0
                            replace p206 := eq_true p206
                            replace q206 := eq_true q206
                            have p207 : 0 ≤ (t201 : Int) := oa
                            have q207 : t201 < (s0_0.length : Int) := oa
                            obtain ⟨ad207, e207, hx207_0, hx207_1, hx207_2⟩ := at_T128 HSz26_0 t201 p207 q207
                            (try rw [← Nbq15.out] at hx207_2)
                            obtain rfl : ad206 = ad207 := (by injection e207)
                            have hn207_0 : ad206.block ≠ g := Nat.ne_of_lt (Nat.lt_of_lt_of_le (by have := World.block_lt_of_cell? _ _ hx207_0; first | rwa [add_block] at this | exact this) (IsS137.ge HI0.out))
                            replace hx207_0 := pw_cell_below HB.out hx207_0
                            replace hx207_1 := pw_cell_below HB.out hx207_1
                            replace hx207_2 := pw_cell_below HB.out hx207_2
                            replace hx207_0 := fx ⟨g, 2, none⟩ (.int .i64 (wrap64 (t203 + 1))) hx207_0
                            replace hx207_1 := fx ⟨g, 2, none⟩ (.int .i64 (wrap64 (t203 + 1))) hx207_1
                            replace hx207_2 := fx ⟨g, 2, none⟩ (.int .i64 (wrap64 (t203 + 1))) hx207_2
                            clear hn207_0
                            replace p207 := eq_true p207
                            replace q207 := eq_true q207
                            have p208 : 0 ≤ (t201 : Int) := oa
                            have q208 : t201 < (s0_0.length : Int) := oa
                            obtain ⟨ad208, e208, hx208_0, hx208_1, hx208_2⟩ := at_T128 HSz26_0 t201 p208 q208
                            (try rw [← Nbq15.out] at hx208_2)
                            obtain rfl : ad206 = ad208 := (by injection e208)
                            have hn208_0 : ad206.block ≠ g := Nat.ne_of_lt (Nat.lt_of_lt_of_le (by have := World.block_lt_of_cell? _ _ hx208_0; first | rwa [add_block] at this | exact this) (IsS137.ge HI0.out))
                            replace hx208_0 := pw_cell_below HB.out hx208_0
                            replace hx208_1 := pw_cell_below HB.out hx208_1
                            replace hx208_2 := pw_cell_below HB.out hx208_2
                            replace hx208_0 := fx ⟨g, 2, none⟩ (.int .i64 (wrap64 (t203 + 1))) hx208_0
                            replace hx208_1 := fx ⟨g, 2, none⟩ (.int .i64 (wrap64 (t203 + 1))) hx208_1
                            replace hx208_2 := fx ⟨g, 2, none⟩ (.int .i64 (wrap64 (t203 + 1))) hx208_2
                            clear hn208_0
                            replace p208 := eq_true p208
                            replace q208 := eq_true q208
                            go_wp2_with (first | ((with_reducible refine gate_callee (f := 94) rfl ?_); refine goesL_ (some 63) rfl rfl Try.func94 (by kernel_rfl) rfl #[.pointer (some ⟨g, 0, none⟩), .int .i64 ((rd_T128 s0_0 t201).f1)] rfl (by (try simp only [List.map_toArray, List.map_cons, List.map_nil]); first | done | rfl | (simp only [List.length_drop, List.length_take]; rfl)) ?_; (with_reducible refine (ih kj5 (by have := HK1.out; have := HJ5.out; omega) g s0_0 t202 (wrap64 (t203 + 1)) t204 ((rd_T128 s0_0 t201).f1) t209 t210 t211 false w0 _ ?side1 ?side2 A17.out).mono ?_); (case side1 => repeat (first | (with_reducible first | exact HI0.out | apply IsS137.alloc | apply IsS137.drewN | apply IsS137.drew | apply IsS137.set_1 | apply IsS137.set_2 | apply IsS137.set_3) | exact HI0.out)); (case side2 => repeat (first | (with_reducible first | exact HB.out | apply below_alloc | apply pw_below_drewN | apply below_drew1 | refine below_set ?_ (IsS137.ge HI0.out)) | exact HB.out)); rintro e w27 ⟨rfl, hi, hb, hk⟩; refine ⟨_, rfl, ?_⟩; have n0_ := Aside0.mk (KeepBut.trans (by repeat (first | (with_reducible first | exact HK.out | apply KeepBut.set_ | apply keep_drewN | apply keep_drew | apply keep_alloc) | exact HK.out)) hk (.inl rfl)); have n1_ := Aside0.mk (hb); have n2_ := Aside0.mk (hi); clear HK; clear HB; clear HI0; have HK := n0_; have HB := n1_; have HI0 := n2_; clear n0_ n1_ n2_; (try clear hb); (try clear hb2); (try clear hk); (try clear hi); obtain ⟨ASz28_0, cSz28_0, HGz28, hgz28, HSz28_0⟩ := HI0.out; have hcz28_0 := cellS137_0 HGz28; have hcz28_1 := cellS137_1 HGz28; have hcz28_2 := cellS137_2 HGz28; have hcz28_3 := cellS137_3 HGz28; have hfz28_1 := blk_frozen HGz28 1; have hfz28_2 := blk_frozen HGz28 2; have hfz28_3 := blk_frozen HGz28 3; clear HGz28 hgz28; have p213 : 0 ≤ (t201 : Int) := oa; have q213 : t201 < (s0_0.length : Int) := oa; obtain ⟨ad213, e213, hx213_0, hx213_1, hx213_2⟩ := at_T128 HSz28_0 t201 p213 q213; (try rw [← Nbq15.out] at hx213_2); cases e213; replace hx213_0 := pw_cell_below HB.out hx213_0; replace hx213_1 := pw_cell_below HB.out hx213_1; replace hx213_2 := pw_cell_below HB.out hx213_2; replace p213 := eq_true p213; replace q213 := eq_true q213))
                            go_roundg kj5
                            case measure => have := HK1.out; have := HJ5.out; omega
                            case rel => exact ⟨(((((⟨#[40]⟩ : ByteArray) ++ x5_1) ++ ((rd_T128 s0_0 t201).f0)) ++ t209) ++ (⟨#[41]⟩ : ByteArray)), (t210), (t211), (false), (by first | rfl | (simp; done) | (simp [*]; done) | (simp [isE0, isE1]; done)), H', ⟨by have := HK1.out; have := HJ5.out; omega⟩, ⟨by repeat (first | (with_reducible first | exact HI0.out | apply IsS137.alloc | apply IsS137.drewN | apply IsS137.drew | apply IsS137.set_1 | apply IsS137.set_2 | apply IsS137.set_3) | exact HI0.out)⟩, ⟨by repeat (first | (with_reducible first | exact HK.out | apply KeepBut.set_ | apply keep_drewN | apply keep_drew | apply keep_alloc) | exact HK.out)⟩, ⟨by repeat (first | (with_reducible first | exact HB.out | apply below_alloc | apply pw_below_drewN | apply below_drew1 | refine below_set ?_ (IsS137.ge HI0.out)) | exact HB.out)⟩⟩
                          · rw [if_neg c25] at H
                            exact absurd H (by simp)
                        · rw [if_neg c24] at H
                          exact absurd H (by simp)
                      · rw [if_neg c23] at H
                        exact absurd H (by simp)
                    · rw [if_neg c22] at H
                      exact absurd H (by simp)
                · replace c16 := Bool.eq_false_iff.mpr c16
                  subst c16
                  have H1 : ((spec_l13Climb_climb.f kj5 s0_0 t202 (wrap64 (t203 + 1)) t204 (wrap64 (((rd_T128 s0_0 t201).f1) + 1))).bind fun bt214 => (if bt214.2.2.2 = true then (some ((⟨#[]⟩ : ByteArray), bt214.2.1, bt214.2.2.1, bt214.2.2.2)) else (if 1 + x5_1.size ≤ 9223372036854775807 then (if ((⟨#[40]⟩ : ByteArray) ++ x5_1).size + ((rd_T128 s0_0 t201).f0).size ≤ 9223372036854775807 then (if (((⟨#[40]⟩ : ByteArray) ++ x5_1) ++ ((rd_T128 s0_0 t201).f0)).size + bt214.1.size ≤ 9223372036854775807 then (if ((((⟨#[40]⟩ : ByteArray) ++ x5_1) ++ ((rd_T128 s0_0 t201).f0)) ++ bt214.1).size + 1 ≤ 9223372036854775807 then (spec_l13Climb_climb.l0 kj5 a1 (((((⟨#[40]⟩ : ByteArray) ++ x5_1) ++ ((rd_T128 s0_0 t201).f0)) ++ bt214.1) ++ (⟨#[41]⟩ : ByteArray)) s0_0 bt214.2.1 bt214.2.2.1 bt214.2.2.2) else (none)) else (none)) else (none)) else (none)))) = some (r1, r2, r3, r4) := by rw [if_neg (show ¬ (false = true) by decide)] at H; exact H
                  clear H
                  have H := H1
                  clear H1
                  replace H := Option.bind_eq_some_iff.mp H
                  obtain ⟨⟨t214, t215, t216, t217⟩, A290, H⟩ := H
                  replace H : (if t217 = true then (some ((⟨#[]⟩ : ByteArray), t215, t216, t217)) else (if 1 + x5_1.size ≤ 9223372036854775807 then (if ((⟨#[40]⟩ : ByteArray) ++ x5_1).size + ((rd_T128 s0_0 t201).f0).size ≤ 9223372036854775807 then (if (((⟨#[40]⟩ : ByteArray) ++ x5_1) ++ ((rd_T128 s0_0 t201).f0)).size + t214.size ≤ 9223372036854775807 then (if ((((⟨#[40]⟩ : ByteArray) ++ x5_1) ++ ((rd_T128 s0_0 t201).f0)) ++ t214).size + 1 ≤ 9223372036854775807 then (spec_l13Climb_climb.l0 kj5 a1 (((((⟨#[40]⟩ : ByteArray) ++ x5_1) ++ ((rd_T128 s0_0 t201).f0)) ++ t214) ++ (⟨#[41]⟩ : ByteArray)) s0_0 t215 t216 t217) else (none)) else (none)) else (none)) else (none))) = some (r1, r2, r3, r4) := H
                  have A29 := Aside0.mk A290
                  clear A290
                  by_cases c30 : t217 = true
                  · subst c30
                    have H1 : (some ((⟨#[]⟩ : ByteArray), t215, t216, true)) = some (r1, r2, r3, r4) := by rw [if_pos rfl] at H; exact H
                    clear H
                    have H := H1
                    clear H1
                    simp only [Option.some.injEq, Prod.mk.injEq] at H
                    obtain ⟨rfl, rfl, rfl, rfl⟩ := H
                    obtain ⟨ASz31_0, cSz31_0, HGz31, hgz31, HSz31_0⟩ := HI0.out
                    have hcz31_0 := cellS137_0 HGz31
                    have hcz31_1 := cellS137_1 HGz31
                    have hcz31_2 := cellS137_2 HGz31
                    have hcz31_3 := cellS137_3 HGz31
                    have hfz31_1 := blk_frozen HGz31 1
                    have hfz31_2 := blk_frozen HGz31 2
                    have hfz31_3 := blk_frozen HGz31 3
                    clear HGz31 hgz31
                    have p206 : 0 ≤ (t201 : Int) := oa
                    have q206 : t201 < (s0_0.length : Int) := oa
                    obtain ⟨ad206, e206, hx206_0, hx206_1, hx206_2⟩ := at_T128 HSz31_0 t201 p206 q206
                    (try rw [← Nbq15.out] at hx206_2)
                    cases e206
                    have hn206_0 : ad206.block ≠ g := Nat.ne_of_lt (Nat.lt_of_lt_of_le (by have := World.block_lt_of_cell? _ _ hx206_0; first | rwa [add_block] at this | exact this) (IsS137.ge HI0.out))
                    replace hx206_0 := pw_cell_below HB.out hx206_0
                    replace hx206_1 := pw_cell_below HB.out hx206_1
                    replace hx206_2 := pw_cell_below HB.out hx206_2
                    replace hx206_0 := fx ⟨g, 2, none⟩ (.int .i64 (wrap64 (t203 + 1))) hx206_0
                    replace hx206_1 := fx ⟨g, 2, none⟩ (.int .i64 (wrap64 (t203 + 1))) hx206_1
                    replace hx206_2 := fx ⟨g, 2, none⟩ (.int .i64 (wrap64 (t203 + 1))) hx206_2
                    clear hn206_0
                    replace p206 := eq_true p206
                    replace q206 := eq_true q206
                    have p207 : 0 ≤ (t201 : Int) := oa
                    have q207 : t201 < (s0_0.length : Int) := oa
                    obtain ⟨ad207, e207, hx207_0, hx207_1, hx207_2⟩ := at_T128 HSz31_0 t201 p207 q207
                    (try rw [← Nbq15.out] at hx207_2)
                    obtain rfl : ad206 = ad207 := (by injection e207)
                    have hn207_0 : ad206.block ≠ g := Nat.ne_of_lt (Nat.lt_of_lt_of_le (by have := World.block_lt_of_cell? _ _ hx207_0; first | rwa [add_block] at this | exact this) (IsS137.ge HI0.out))
                    replace hx207_0 := pw_cell_below HB.out hx207_0
                    replace hx207_1 := pw_cell_below HB.out hx207_1
                    replace hx207_2 := pw_cell_below HB.out hx207_2
                    replace hx207_0 := fx ⟨g, 2, none⟩ (.int .i64 (wrap64 (t203 + 1))) hx207_0
                    replace hx207_1 := fx ⟨g, 2, none⟩ (.int .i64 (wrap64 (t203 + 1))) hx207_1
                    replace hx207_2 := fx ⟨g, 2, none⟩ (.int .i64 (wrap64 (t203 + 1))) hx207_2
                    clear hn207_0
                    replace p207 := eq_true p207
                    replace q207 := eq_true q207
                    go_wp2_with (first | ((with_reducible refine gate_callee (f := 94) rfl ?_); refine goesL_ (some 63) rfl rfl Try.func94 (by kernel_rfl) rfl #[.pointer (some ⟨g, 0, none⟩), .int .i64 (wrap64 (((rd_T128 s0_0 t201).f1) + 1))] rfl (by (try simp only [List.map_toArray, List.map_cons, List.map_nil]); first | done | rfl | (simp only [List.length_drop, List.length_take]; rfl)) ?_; (with_reducible refine (ih kj5 (by have := HK1.out; have := HJ5.out; omega) g s0_0 t202 (wrap64 (t203 + 1)) t204 (wrap64 (((rd_T128 s0_0 t201).f1) + 1)) t214 t215 t216 true w0 _ ?side1 ?side2 A29.out).mono ?_); (case side1 => repeat (first | (with_reducible first | exact HI0.out | apply IsS137.alloc | apply IsS137.drewN | apply IsS137.drew | apply IsS137.set_1 | apply IsS137.set_2 | apply IsS137.set_3) | exact HI0.out)); (case side2 => repeat (first | (with_reducible first | exact HB.out | apply below_alloc | apply pw_below_drewN | apply below_drew1 | refine below_set ?_ (IsS137.ge HI0.out)) | exact HB.out)); rintro e w32 ⟨rfl, hi, hb, hk⟩; refine ⟨_, rfl, ?_⟩; have n0_ := Aside0.mk (KeepBut.trans (by repeat (first | (with_reducible first | exact HK.out | apply KeepBut.set_ | apply keep_drewN | apply keep_drew | apply keep_alloc) | exact HK.out)) hk (.inl rfl)); have n1_ := Aside0.mk (hb); have n2_ := Aside0.mk (hi); clear HK; clear HB; clear HI0; have HK := n0_; have HB := n1_; have HI0 := n2_; clear n0_ n1_ n2_; (try clear hb); (try clear hb2); (try clear hk); (try clear hi); obtain ⟨ASz33_0, cSz33_0, HGz33, hgz33, HSz33_0⟩ := HI0.out; have hcz33_0 := cellS137_0 HGz33; have hcz33_1 := cellS137_1 HGz33; have hcz33_2 := cellS137_2 HGz33; have hcz33_3 := cellS137_3 HGz33; have hfz33_1 := blk_frozen HGz33 1; have hfz33_2 := blk_frozen HGz33 2; have hfz33_3 := blk_frozen HGz33 3; clear HGz33 hgz33))
                    go_ret
                    exact ⟨by first | rfl | (simp [errW_none, errW_some] <;> rfl) | (simp [*, errW_none, errW_some] <;> rfl), by repeat (first | (with_reducible first | exact HI0.out | apply IsS137.alloc | apply IsS137.drewN | apply IsS137.drew | apply IsS137.set_1 | apply IsS137.set_2 | apply IsS137.set_3) | exact HI0.out), by repeat (first | (with_reducible first | exact HB.out | apply below_alloc | apply pw_below_drewN | apply below_drew1 | refine below_set ?_ (IsS137.ge HI0.out)) | exact HB.out), by repeat (first | (with_reducible first | exact HK.out | apply KeepBut.set_ | apply keep_drewN | apply keep_drew | apply keep_alloc) | exact HK.out)⟩
                  · replace c30 := Bool.eq_false_iff.mpr c30
                    subst c30
                    have H1 : (if 1 + x5_1.size ≤ 9223372036854775807 then (if ((⟨#[40]⟩ : ByteArray) ++ x5_1).size + ((rd_T128 s0_0 t201).f0).size ≤ 9223372036854775807 then (if (((⟨#[40]⟩ : ByteArray) ++ x5_1) ++ ((rd_T128 s0_0 t201).f0)).size + t214.size ≤ 9223372036854775807 then (if ((((⟨#[40]⟩ : ByteArray) ++ x5_1) ++ ((rd_T128 s0_0 t201).f0)) ++ t214).size + 1 ≤ 9223372036854775807 then (spec_l13Climb_climb.l0 kj5 a1 (((((⟨#[40]⟩ : ByteArray) ++ x5_1) ++ ((rd_T128 s0_0 t201).f0)) ++ t214) ++ (⟨#[41]⟩ : ByteArray)) s0_0 t215 t216 false) else (none)) else (none)) else (none)) else (none)) = some (r1, r2, r3, r4) := by rw [if_neg (show ¬ (false = true) by decide)] at H; exact H
                    clear H
                    have H := H1
                    clear H1
                    by_cases c34 : 1 + x5_1.size ≤ 9223372036854775807
                    · rw [if_pos c34] at H
                      have c34b0 := eq_true c34
                      have c34b1 : decide (1 + x5_1.size ≤ 9223372036854775807) = true := decide_eq_true c34
                      try have c34b2 : (9223372036854775807 < 1 + x5_1.size) = False := eq_false (Nat.not_lt.2 c34)
                      by_cases c35 : ((⟨#[40]⟩ : ByteArray) ++ x5_1).size + ((rd_T128 s0_0 t201).f0).size ≤ 9223372036854775807
                      · rw [if_pos c35] at H
                        have c35b0 := eq_true c35
                        have c35b1 : decide (((⟨#[40]⟩ : ByteArray) ++ x5_1).size + ((rd_T128 s0_0 t201).f0).size ≤ 9223372036854775807) = true := decide_eq_true c35
                        try (have c35s := c35; simp only [ByteArray.size_append] at c35s; replace c35s := eq_false (Nat.not_lt.2 c35s))
                        try (have c35n := c35; simp only [ByteArray.size_append] at c35n; simp only [show (⟨#[40]⟩ : ByteArray).size = 1 from rfl] at c35n; replace c35n := eq_false (Nat.not_lt.2 c35n))
                        try have c35b2 : (9223372036854775807 < ((⟨#[40]⟩ : ByteArray) ++ x5_1).size + ((rd_T128 s0_0 t201).f0).size) = False := eq_false (Nat.not_lt.2 c35)
                        by_cases c36 : (((⟨#[40]⟩ : ByteArray) ++ x5_1) ++ ((rd_T128 s0_0 t201).f0)).size + t214.size ≤ 9223372036854775807
                        · rw [if_pos c36] at H
                          have c36b0 := eq_true c36
                          have c36b1 : decide ((((⟨#[40]⟩ : ByteArray) ++ x5_1) ++ ((rd_T128 s0_0 t201).f0)).size + t214.size ≤ 9223372036854775807) = true := decide_eq_true c36
                          try (have c36s := c36; simp only [ByteArray.size_append] at c36s; replace c36s := eq_false (Nat.not_lt.2 c36s))
                          try (have c36n := c36; simp only [ByteArray.size_append] at c36n; simp only [show (⟨#[40]⟩ : ByteArray).size = 1 from rfl] at c36n; replace c36n := eq_false (Nat.not_lt.2 c36n))
                          try have c36b2 : (9223372036854775807 < (((⟨#[40]⟩ : ByteArray) ++ x5_1) ++ ((rd_T128 s0_0 t201).f0)).size + t214.size) = False := eq_false (Nat.not_lt.2 c36)
                          by_cases c37 : ((((⟨#[40]⟩ : ByteArray) ++ x5_1) ++ ((rd_T128 s0_0 t201).f0)) ++ t214).size + 1 ≤ 9223372036854775807
                          · rw [if_pos c37] at H
                            have c37b0 := eq_true c37
                            have c37b1 : decide (((((⟨#[40]⟩ : ByteArray) ++ x5_1) ++ ((rd_T128 s0_0 t201).f0)) ++ t214).size + 1 ≤ 9223372036854775807) = true := decide_eq_true c37
                            try (have c37s := c37; simp only [ByteArray.size_append] at c37s; replace c37s := eq_false (Nat.not_lt.2 c37s))
                            try (have c37n := c37; simp only [ByteArray.size_append] at c37n; simp only [show (⟨#[40]⟩ : ByteArray).size = 1 from rfl] at c37n; replace c37n := eq_false (Nat.not_lt.2 c37n))
                            try have c37b2 : (9223372036854775807 < ((((⟨#[40]⟩ : ByteArray) ++ x5_1) ++ ((rd_T128 s0_0 t201).f0)) ++ t214).size + 1) = False := eq_false (Nat.not_lt.2 c37)
                            have H' := Aside0.mk H
                            clear H
                            obtain ⟨ASz38_0, cSz38_0, HGz38, hgz38, HSz38_0⟩ := HI0.out
                            have hcz38_0 := cellS137_0 HGz38
                            have hcz38_1 := cellS137_1 HGz38
                            have hcz38_2 := cellS137_2 HGz38
                            have hcz38_3 := cellS137_3 HGz38
                            have hfz38_1 := blk_frozen HGz38 1
                            have hfz38_2 := blk_frozen HGz38 2
                            have hfz38_3 := blk_frozen HGz38 3
                            clear HGz38 hgz38
                            have p206 : 0 ≤ (t201 : Int) := oa
                            have q206 : t201 < (s0_0.length : Int) := oa
                            obtain ⟨ad206, e206, hx206_0, hx206_1, hx206_2⟩ := at_T128 HSz38_0 t201 p206 q206
                            (try rw [← Nbq15.out] at hx206_2)
                            cases e206
                            have hn206_0 : ad206.block ≠ g := Nat.ne_of_lt (Nat.lt_of_lt_of_le (by have := World.block_lt_of_cell? _ _ hx206_0; first | rwa [add_block] at this | exact this) (IsS137.ge HI0.out))
                            replace hx206_0 := pw_cell_below HB.out hx206_0
                            replace hx206_1 := pw_cell_below HB.out hx206_1
                            replace hx206_2 := pw_cell_below HB.out hx206_2
                            replace hx206_0 := fx ⟨g, 2, none⟩ (.int .i64 (wrap64 (t203 + 1))) hx206_0
                            replace hx206_1 := fx ⟨g, 2, none⟩ (.int .i64 (wrap64 (t203 + 1))) hx206_1
                            replace hx206_2 := fx ⟨g, 2, none⟩ (.int .i64 (wrap64 (t203 + 1))) hx206_2
                            clear hn206_0
                            replace p206 := eq_true p206
                            replace q206 := eq_true q206
                            have p207 : 0 ≤ (t201 : Int) := oa
                            have q207 : t201 < (s0_0.length : Int) := oa
                            obtain ⟨ad207, e207, hx207_0, hx207_1, hx207_2⟩ := at_T128 HSz38_0 t201 p207 q207
                            (try rw [← Nbq15.out] at hx207_2)
                            obtain rfl : ad206 = ad207 := (by injection e207)
                            have hn207_0 : ad206.block ≠ g := Nat.ne_of_lt (Nat.lt_of_lt_of_le (by have := World.block_lt_of_cell? _ _ hx207_0; first | rwa [add_block] at this | exact this) (IsS137.ge HI0.out))
                            replace hx207_0 := pw_cell_below HB.out hx207_0
                            replace hx207_1 := pw_cell_below HB.out hx207_1
                            replace hx207_2 := pw_cell_below HB.out hx207_2
                            replace hx207_0 := fx ⟨g, 2, none⟩ (.int .i64 (wrap64 (t203 + 1))) hx207_0
                            replace hx207_1 := fx ⟨g, 2, none⟩ (.int .i64 (wrap64 (t203 + 1))) hx207_1
                            replace hx207_2 := fx ⟨g, 2, none⟩ (.int .i64 (wrap64 (t203 + 1))) hx207_2
                            clear hn207_0
                            replace p207 := eq_true p207
                            replace q207 := eq_true q207
                            go_wp2_with (first | ((with_reducible refine gate_callee (f := 94) rfl ?_); refine goesL_ (some 63) rfl rfl Try.func94 (by kernel_rfl) rfl #[.pointer (some ⟨g, 0, none⟩), .int .i64 (wrap64 (((rd_T128 s0_0 t201).f1) + 1))] rfl (by (try simp only [List.map_toArray, List.map_cons, List.map_nil]); first | done | rfl | (simp only [List.length_drop, List.length_take]; rfl)) ?_; (with_reducible refine (ih kj5 (by have := HK1.out; have := HJ5.out; omega) g s0_0 t202 (wrap64 (t203 + 1)) t204 (wrap64 (((rd_T128 s0_0 t201).f1) + 1)) t214 t215 t216 false w0 _ ?side1 ?side2 A29.out).mono ?_); (case side1 => repeat (first | (with_reducible first | exact HI0.out | apply IsS137.alloc | apply IsS137.drewN | apply IsS137.drew | apply IsS137.set_1 | apply IsS137.set_2 | apply IsS137.set_3) | exact HI0.out)); (case side2 => repeat (first | (with_reducible first | exact HB.out | apply below_alloc | apply pw_below_drewN | apply below_drew1 | refine below_set ?_ (IsS137.ge HI0.out)) | exact HB.out)); rintro e w39 ⟨rfl, hi, hb, hk⟩; refine ⟨_, rfl, ?_⟩; have n0_ := Aside0.mk (KeepBut.trans (by repeat (first | (with_reducible first | exact HK.out | apply KeepBut.set_ | apply keep_drewN | apply keep_drew | apply keep_alloc) | exact HK.out)) hk (.inl rfl)); have n1_ := Aside0.mk (hb); have n2_ := Aside0.mk (hi); clear HK; clear HB; clear HI0; have HK := n0_; have HB := n1_; have HI0 := n2_; clear n0_ n1_ n2_; (try clear hb); (try clear hb2); (try clear hk); (try clear hi); obtain ⟨ASz40_0, cSz40_0, HGz40, hgz40, HSz40_0⟩ := HI0.out; have hcz40_0 := cellS137_0 HGz40; have hcz40_1 := cellS137_1 HGz40; have hcz40_2 := cellS137_2 HGz40; have hcz40_3 := cellS137_3 HGz40; have hfz40_1 := blk_frozen HGz40 1; have hfz40_2 := blk_frozen HGz40 2; have hfz40_3 := blk_frozen HGz40 3; clear HGz40 hgz40; have p218 : 0 ≤ (t201 : Int) := oa; have q218 : t201 < (s0_0.length : Int) := oa; obtain ⟨ad218, e218, hx218_0, hx218_1, hx218_2⟩ := at_T128 HSz40_0 t201 p218 q218; (try rw [← Nbq15.out] at hx218_2); cases e218; replace hx218_0 := pw_cell_below HB.out hx218_0; replace hx218_1 := pw_cell_below HB.out hx218_1; replace hx218_2 := pw_cell_below HB.out hx218_2; replace p218 := eq_true p218; replace q218 := eq_true q218))
                            go_roundg kj5
                            case measure => have := HK1.out; have := HJ5.out; omega
                            case rel => exact ⟨(((((⟨#[40]⟩ : ByteArray) ++ x5_1) ++ ((rd_T128 s0_0 t201).f0)) ++ t214) ++ (⟨#[41]⟩ : ByteArray)), (t215), (t216), (false), (by first | rfl | (simp; done) | (simp [*]; done) | (simp [isE0, isE1]; done)), H', ⟨by have := HK1.out; have := HJ5.out; omega⟩, ⟨by repeat (first | (with_reducible first | exact HI0.out | apply IsS137.alloc | apply IsS137.drewN | apply IsS137.drew | apply IsS137.set_1 | apply IsS137.set_2 | apply IsS137.set_3) | exact HI0.out)⟩, ⟨by repeat (first | (with_reducible first | exact HK.out | apply KeepBut.set_ | apply keep_drewN | apply keep_drew | apply keep_alloc) | exact HK.out)⟩, ⟨by repeat (first | (with_reducible first | exact HB.out | apply below_alloc | apply pw_below_drewN | apply below_drew1 | refine below_set ?_ (IsS137.ge HI0.out)) | exact HB.out)⟩⟩
                          · rw [if_neg c37] at H
                            exact absurd H (by simp)
                        · rw [if_neg c36] at H
                          exact absurd H (by simp)
                      · rw [if_neg c35] at H
                        exact absurd H (by simp)
                    · rw [if_neg c34] at H
                      exact absurd H (by simp)
              · rw [if_neg c14] at H
                exact absurd H (by simp)
            · rw [if_neg c13] at H
              exact absurd H (by simp)

/-! ### spec_Climb: function 37 -/
def spec_Climb.j0 : Nat → ByteArray → Bool → List (S128) → ByteArray → Int → Bool → Option (ByteArray × Bool)
  | 0, _, _, _, _, _, _ => none
  | k + 1, x1, x19, x220000, x220001, x220002, x220003 => if x19 = true then (some ((⟨#[]⟩ : ByteArray), false)) else ((spec_l13Climb_climb.f k x220000 x220001 x220002 x220003 0).bind fun bt221 => (if bt221.2.2.2 = true then (some ((⟨#[]⟩ : ByteArray), false)) else (if bt221.2.2.1 < (x1.size : Int) then (some ((⟨#[]⟩ : ByteArray), false)) else (some (bt221.1, true)))))
def spec_Climb.f (k : Nat) (l0 : List (S128)) (a1 : ByteArray) : Option (ByteArray × Bool) := (spec_OpsOk.f k l0).bind fun t220 => (if t220 = true then (spec_Climb.j0 k a1 (decide ((a1.size : Int) > 12)) l0 a1 0 false) else (spec_Climb.j0 k a1 true l0 a1 0 false))
theorem spec_Climb.mono_l : ∀ k, (∀ y0 y1 y2 y3 y4 y5, LeO (spec_Climb.j0 k y0 y1 y2 y3 y4 y5) (spec_Climb.j0 (k + 1) y0 y1 y2 y3 y4 y5))
  | 0 => fun _ _ _ _ _ _ r h => by simp [spec_Climb.j0] at h
  | k + 1 => by
    have ih0 := spec_Climb.mono_l k
    · intro y0 y1 y2 y3 y4 y5
      unfold spec_Climb.j0
      repeat' first
      | (with_reducible exact ih0 _ _ _ _ _ _)
      | (with_reducible exact spec_OpsOk.mono _ _)
      | (with_reducible exact spec_l13Climb_climb.mono _ _ _ _ _ _)
      | (with_reducible exact LeO.refl _)
      | (with_reducible exact LeO.none _)
      | (with_reducible refine LeO.ite ?_ ?_)
      | (with_reducible refine LeO.bind ?_ (fun _ => ?_))
      | exact ih0 _ _ _ _ _ _
      | exact spec_OpsOk.mono _ _
      | exact spec_l13Climb_climb.mono _ _ _ _ _ _
      | exact LeO.none _
      | refine LeO.ite ?_ ?_
      | refine LeO.bind ?_ (fun _ => ?_)
theorem spec_Climb.mono : ∀ a0 a1 k, LeO (spec_Climb.f k a0 a1) (spec_Climb.f (k + 1) a0 a1) := by
  intro a0 a1 k
  have ih0 := spec_Climb.mono_l k
  unfold spec_Climb.f
  repeat' first
      | (with_reducible exact ih0 _ _ _ _ _ _)
      | (with_reducible exact spec_OpsOk.mono _ _)
      | (with_reducible exact spec_l13Climb_climb.mono _ _ _ _ _ _)
      | (with_reducible exact LeO.refl _)
      | (with_reducible exact LeO.none _)
      | (with_reducible refine LeO.ite ?_ ?_)
      | (with_reducible refine LeO.bind ?_ (fun _ => ?_))
      | exact ih0 _ _ _ _ _ _
      | exact spec_OpsOk.mono _ _
      | exact spec_l13Climb_climb.mono _ _ _ _ _ _
      | exact LeO.none _
      | refine LeO.ite ?_ ?_
      | refine LeO.bind ?_ (fun _ => ?_)
set_option maxHeartbeats 8000000 in
set_option maxRecDepth 100000 in
theorem spec_Climb.calls (k : Nat) (A0 : Option Addr) (c0 : Nat) (l0 : List (S128)) (a1 : ByteArray) (r1 : ByteArray) (r2 : Bool) (w : World) (hr0 : Kd.C k128 w A0 l0.length l0) (hc0 : l0.length ≤ c0) (h : spec_Climb.f k l0 a1 = some (r1, r2)) :
    Calls Try.prog 37 #[.slice A0 l0.length c0, .string a1] w fun e w' => e = .returned (.tuple #[.string r1, .bool r2]) ∧ Below w.heap.size w w' := by
  have hu137 := Try.underlying137
  have HR0 := Aside0.mk hr0
  have HC0 := Aside0.mk hc0
  clear hr0 hc0
  have HB := Aside0.mk (Below.refl w.heap.size w)
  have H : ((spec_OpsOk.f k l0).bind fun t220 => (if t220 = true then (spec_Climb.j0 k a1 (decide ((a1.size : Int) > 12)) l0 a1 0 false) else (spec_Climb.j0 k a1 true l0 a1 0 false))) = some (r1, r2) := h
  clear h
  have HC3 := Aside0.mk H
  clear H
  go_enter Try.func37, Try.ntmps37
  go_upto_region 2 with (first | ((with_reducible refine gate_dst (N := 11) rfl ?_); (try (refine gate_guard (by rfl) ?_; dsimp only)); refine box_event ?hg (N := 11) ?hd (cs := #[.slice A0 l0.length c0, .string a1, .int .i64 0, .bool false]) (t := 137) ?hr ?_; (case hd => rfl); (case hg => rfl); (case hr => first | (go_simp; done) | (go_simp; rfl)); intro gb219 hg w4 hbox hb; have n0_ := Aside0.mk (below_step bw hb); have n1_ := Aside0.mk ((show IsS137 w _ gb219 l0 a1 0 false from ⟨_, _, hbox, (bz bw hg : w.heap.size ≤ gb219), HR0.out⟩)); have n2_ := Aside0.mk ((bz bw hg : w.heap.size ≤ gb219)); have n3_ := Aside0.mk ((bz bw hg : w.heap.size ≤ gb219)); clear HB; have HB := n0_; have HI219 := n1_; have GW219 := n2_; have GE219 := n3_; clear n0_ n1_ n2_ n3_; clear hb hbox hg))
  (try simp only [Act.put, List.setIfInBounds_toArray, List.set_cons_zero, List.set_cons_succ])
  go_cut [19] (fun v19 wc => ∃ (kq : Nat) (x19_2 : Bool), v19 = .bool x19_2 ∧ Aside0 (spec_Climb.j0 kq a1 x19_2 l0 a1 0 false = some (r1, r2)) ∧ Aside0 (kq ≤ k) ∧ Aside0 (IsS137 w wc gb219 l0 a1 0 false) ∧ Aside0 (Below w.heap.size w wc))
  case first =>
    have H := HC3.out
    clear HC3
    replace H := Option.bind_eq_some_iff.mp H
    obtain ⟨t220, A50, H⟩ := H
    replace H : (if t220 = true then (spec_Climb.j0 k a1 (decide ((a1.size : Int) > 12)) l0 a1 0 false) else (spec_Climb.j0 k a1 true l0 a1 0 false)) = some (r1, r2) := H
    have A5 := Aside0.mk A50
    clear A50
    by_cases c6 : t220 = true
    · subst c6
      have H1 : (spec_Climb.j0 k a1 (decide ((a1.size : Int) > 12)) l0 a1 0 false) = some (r1, r2) := by rw [if_pos rfl] at H; exact H
      clear H
      have H := H1
      clear H1
      have H' := Aside0.mk H
      clear H
      go_wp2_with (first | ((with_reducible refine gate_callee (f := 93) rfl ?_); refine goesL_ (some 13) rfl rfl Try.func93 (by kernel_rfl) rfl #[.slice A0 l0.length c0] rfl (by (try simp only [List.map_toArray, List.map_cons, List.map_nil]); first | done | rfl | (simp only [List.length_drop, List.length_take]; rfl)) ?_; (with_reducible refine (spec_OpsOk.calls k _ _ l0 true _ ?side1 ?side2 A5.out).mono ?_); (case side1 => exact kb); (case side2 => exact HC0.out); rintro e w' ⟨rfl, ⟨nd, rfl⟩⟩; refine ⟨_, rfl, ?_⟩))
      go_meet
      case rel => exact ⟨_, (decide ((a1.size : Int) > 12)), (by first | rfl | (simp; done) | (simp [*]; done) | (simp [isE0, isE1]; done)), H', ⟨by first | omega | exact Nat.le_refl _⟩, ⟨by repeat (first | (with_reducible first | exact HI219.out | apply IsS137.alloc | apply IsS137.drewN | apply IsS137.drew | apply IsS137.set_1 | apply IsS137.set_2 | apply IsS137.set_3) | exact HI219.out)⟩, ⟨by repeat (first | (with_reducible first | exact HB.out | apply below_alloc | apply pw_below_drewN | apply below_drew1 | refine below_set ?_ (IsS137.ge HI219.out)) | exact HB.out)⟩⟩
    · replace c6 := Bool.eq_false_iff.mpr c6
      subst c6
      have H1 : (spec_Climb.j0 k a1 true l0 a1 0 false) = some (r1, r2) := by rw [if_neg (show ¬ (false = true) by decide)] at H; exact H
      clear H
      have H := H1
      clear H1
      have H' := Aside0.mk H
      clear H
      go_wp2_with (first | ((with_reducible refine gate_callee (f := 93) rfl ?_); refine goesL_ (some 13) rfl rfl Try.func93 (by kernel_rfl) rfl #[.slice A0 l0.length c0] rfl (by (try simp only [List.map_toArray, List.map_cons, List.map_nil]); first | done | rfl | (simp only [List.length_drop, List.length_take]; rfl)) ?_; (with_reducible refine (spec_OpsOk.calls k _ _ l0 false _ ?side1 ?side2 A5.out).mono ?_); (case side1 => exact kb); (case side2 => exact HC0.out); rintro e w' ⟨rfl, ⟨nd, rfl⟩⟩; refine ⟨_, rfl, ?_⟩))
      go_meet
      case rel => exact ⟨_, (true), (by first | rfl | (simp; done) | (simp [*]; done) | (simp [isE0, isE1]; done)), H', ⟨by first | omega | exact Nat.le_refl _⟩, ⟨by repeat (first | (with_reducible first | exact HI219.out | apply IsS137.alloc | apply IsS137.drewN | apply IsS137.drew | apply IsS137.set_1 | apply IsS137.set_2 | apply IsS137.set_3) | exact HI219.out)⟩, ⟨by repeat (first | (with_reducible first | exact HB.out | apply below_alloc | apply pw_below_drewN | apply below_drew1 | refine below_set ?_ (IsS137.ge HI219.out)) | exact HB.out)⟩⟩
  case rest =>
    clear HC3
    try clear p2
    try clear c3
    try clear c6
    obtain ⟨kq, x19_2, rfl, HA, HJ2, HI219, HB⟩ := hcut
    cases kq with
    | zero => exact absurd HA.out (by simp [spec_Climb.j0])
    | succ kj2 =>
      have H := HA.out
      clear HA
      simp only [spec_Climb.j0] at H
      by_cases c7 : x19_2 = true
      · subst c7
        have H1 : (some ((⟨#[]⟩ : ByteArray), false)) = some (r1, r2) := by rw [if_pos rfl] at H; exact H
        clear H
        have H := H1
        clear H1
        simp only [Option.some.injEq, Prod.mk.injEq] at H
        obtain ⟨rfl, rfl⟩ := H
        go_wp2
        go_ret2
        exact ⟨by first | rfl | (simp [errW_none, errW_some] <;> rfl) | (simp [*, errW_none, errW_some] <;> rfl), by repeat (first | (with_reducible first | exact HB.out | apply below_alloc | apply pw_below_drewN | apply below_drew1 | refine below_set ?_ (IsS137.ge HI219.out)) | exact HB.out)⟩
      · replace c7 := Bool.eq_false_iff.mpr c7
        subst c7
        have H1 : ((spec_l13Climb_climb.f kj2 l0 a1 0 false 0).bind fun bt221 => (if bt221.2.2.2 = true then (some ((⟨#[]⟩ : ByteArray), false)) else (if bt221.2.2.1 < (a1.size : Int) then (some ((⟨#[]⟩ : ByteArray), false)) else (some (bt221.1, true))))) = some (r1, r2) := by rw [if_neg (show ¬ (false = true) by decide)] at H; exact H
        clear H
        have H := H1
        clear H1
        replace H := Option.bind_eq_some_iff.mp H
        obtain ⟨⟨t221, t222, t223, t224⟩, A80, H⟩ := H
        replace H : (if t224 = true then (some ((⟨#[]⟩ : ByteArray), false)) else (if t223 < (a1.size : Int) then (some ((⟨#[]⟩ : ByteArray), false)) else (some (t221, true)))) = some (r1, r2) := H
        have A8 := Aside0.mk A80
        clear A80
        by_cases c9 : t224 = true
        · subst c9
          have H1 : (some ((⟨#[]⟩ : ByteArray), false)) = some (r1, r2) := by rw [if_pos rfl] at H; exact H
          clear H
          have H := H1
          clear H1
          simp only [Option.some.injEq, Prod.mk.injEq] at H
          obtain ⟨rfl, rfl⟩ := H
          go_wp2_with (first | ((with_reducible refine gate_callee (f := 94) rfl ?_); refine goesL_ (some 21) rfl rfl Try.func94 (by kernel_rfl) rfl #[.pointer (some ⟨gb219, 0, none⟩), .int .i64 0] rfl (by (try simp only [List.map_toArray, List.map_cons, List.map_nil]); first | done | rfl | (simp only [List.length_drop, List.length_take]; rfl)) ?_; (with_reducible refine (spec_l13Climb_climb.calls kj2 gb219 l0 a1 0 false 0 t221 t222 t223 true w _ ?side1 ?side2 A8.out).mono ?_); (case side1 => repeat (first | (with_reducible first | exact HI219.out | apply IsS137.alloc | apply IsS137.drewN | apply IsS137.drew | apply IsS137.set_1 | apply IsS137.set_2 | apply IsS137.set_3) | exact HI219.out)); (case side2 => repeat (first | (with_reducible first | exact HB.out | apply below_alloc | apply pw_below_drewN | apply below_drew1 | refine below_set ?_ (IsS137.ge HI219.out)) | exact HB.out)); rintro e w10 ⟨rfl, hi, hb, hk⟩; refine ⟨_, rfl, ?_⟩; have n0_ := Aside0.mk (hb); have n1_ := Aside0.mk (hi); clear HB; clear HI219; have HB := n0_; have HI219 := n1_; clear n0_ n1_; (try clear hb); (try clear hb2); (try clear hk); (try clear hi); obtain ⟨ASz11_0, cSz11_0, HGz11, hgz11, HSz11_0⟩ := HI219.out; have hcz11_0 := cellS137_0 HGz11; have hcz11_1 := cellS137_1 HGz11; have hcz11_2 := cellS137_2 HGz11; have hcz11_3 := cellS137_3 HGz11; have hfz11_1 := blk_frozen HGz11 1; have hfz11_2 := blk_frozen HGz11 2; have hfz11_3 := blk_frozen HGz11 3; clear HGz11 hgz11))
          go_ret2
          exact ⟨by first | rfl | (simp [errW_none, errW_some] <;> rfl) | (simp [*, errW_none, errW_some] <;> rfl), by repeat (first | (with_reducible first | exact HB.out | apply below_alloc | apply pw_below_drewN | apply below_drew1 | refine below_set ?_ (IsS137.ge HI219.out)) | exact HB.out)⟩
        · replace c9 := Bool.eq_false_iff.mpr c9
          subst c9
          have H1 : (if t223 < (a1.size : Int) then (some ((⟨#[]⟩ : ByteArray), false)) else (some (t221, true))) = some (r1, r2) := by rw [if_neg (show ¬ (false = true) by decide)] at H; exact H
          clear H
          have H := H1
          clear H1
          by_cases c12 : t223 < (a1.size : Int)
          · rw [if_pos c12] at H
            have c12b0 : decide (t223 < (a1.size : Int)) = true := decide_eq_true c12
            clear c12
            simp only [Option.some.injEq, Prod.mk.injEq] at H
            obtain ⟨rfl, rfl⟩ := H
            go_wp2_with (first | ((with_reducible refine gate_callee (f := 94) rfl ?_); refine goesL_ (some 21) rfl rfl Try.func94 (by kernel_rfl) rfl #[.pointer (some ⟨gb219, 0, none⟩), .int .i64 0] rfl (by (try simp only [List.map_toArray, List.map_cons, List.map_nil]); first | done | rfl | (simp only [List.length_drop, List.length_take]; rfl)) ?_; (with_reducible refine (spec_l13Climb_climb.calls kj2 gb219 l0 a1 0 false 0 t221 t222 t223 false w _ ?side1 ?side2 A8.out).mono ?_); (case side1 => repeat (first | (with_reducible first | exact HI219.out | apply IsS137.alloc | apply IsS137.drewN | apply IsS137.drew | apply IsS137.set_1 | apply IsS137.set_2 | apply IsS137.set_3) | exact HI219.out)); (case side2 => repeat (first | (with_reducible first | exact HB.out | apply below_alloc | apply pw_below_drewN | apply below_drew1 | refine below_set ?_ (IsS137.ge HI219.out)) | exact HB.out)); rintro e w13 ⟨rfl, hi, hb, hk⟩; refine ⟨_, rfl, ?_⟩; have n0_ := Aside0.mk (hb); have n1_ := Aside0.mk (hi); clear HB; clear HI219; have HB := n0_; have HI219 := n1_; clear n0_ n1_; (try clear hb); (try clear hb2); (try clear hk); (try clear hi); obtain ⟨ASz14_0, cSz14_0, HGz14, hgz14, HSz14_0⟩ := HI219.out; have hcz14_0 := cellS137_0 HGz14; have hcz14_1 := cellS137_1 HGz14; have hcz14_2 := cellS137_2 HGz14; have hcz14_3 := cellS137_3 HGz14; have hfz14_1 := blk_frozen HGz14 1; have hfz14_2 := blk_frozen HGz14 2; have hfz14_3 := blk_frozen HGz14 3; clear HGz14 hgz14))
            go_ret2
            exact ⟨by first | rfl | (simp [errW_none, errW_some] <;> rfl) | (simp [*, errW_none, errW_some] <;> rfl), by repeat (first | (with_reducible first | exact HB.out | apply below_alloc | apply pw_below_drewN | apply below_drew1 | refine below_set ?_ (IsS137.ge HI219.out)) | exact HB.out)⟩
          · rw [if_neg c12] at H
            have c12b0 : decide (t223 < (a1.size : Int)) = false := decide_eq_false c12
            clear c12
            simp only [Option.some.injEq, Prod.mk.injEq] at H
            obtain ⟨rfl, rfl⟩ := H
            go_wp2_with (first | ((with_reducible refine gate_callee (f := 94) rfl ?_); refine goesL_ (some 21) rfl rfl Try.func94 (by kernel_rfl) rfl #[.pointer (some ⟨gb219, 0, none⟩), .int .i64 0] rfl (by (try simp only [List.map_toArray, List.map_cons, List.map_nil]); first | done | rfl | (simp only [List.length_drop, List.length_take]; rfl)) ?_; (with_reducible refine (spec_l13Climb_climb.calls kj2 gb219 l0 a1 0 false 0 t221 t222 t223 false w _ ?side1 ?side2 A8.out).mono ?_); (case side1 => repeat (first | (with_reducible first | exact HI219.out | apply IsS137.alloc | apply IsS137.drewN | apply IsS137.drew | apply IsS137.set_1 | apply IsS137.set_2 | apply IsS137.set_3) | exact HI219.out)); (case side2 => repeat (first | (with_reducible first | exact HB.out | apply below_alloc | apply pw_below_drewN | apply below_drew1 | refine below_set ?_ (IsS137.ge HI219.out)) | exact HB.out)); rintro e w15 ⟨rfl, hi, hb, hk⟩; refine ⟨_, rfl, ?_⟩; have n0_ := Aside0.mk (hb); have n1_ := Aside0.mk (hi); clear HB; clear HI219; have HB := n0_; have HI219 := n1_; clear n0_ n1_; (try clear hb); (try clear hb2); (try clear hk); (try clear hi); obtain ⟨ASz16_0, cSz16_0, HGz16, hgz16, HSz16_0⟩ := HI219.out; have hcz16_0 := cellS137_0 HGz16; have hcz16_1 := cellS137_1 HGz16; have hcz16_2 := cellS137_2 HGz16; have hcz16_3 := cellS137_3 HGz16; have hfz16_1 := blk_frozen HGz16 1; have hfz16_2 := blk_frozen HGz16 2; have hfz16_3 := blk_frozen HGz16 3; clear HGz16 hgz16))
            go_ret2
            exact ⟨by first | rfl | (simp [errW_none, errW_some] <;> rfl) | (simp [*, errW_none, errW_some] <;> rfl), by repeat (first | (with_reducible first | exact HB.out | apply below_alloc | apply pw_below_drewN | apply below_drew1 | refine below_set ?_ (IsS137.ge HI219.out)) | exact HB.out)⟩

/-! ### laws_toOp: function 95 -/
def laws_toOp.f (a0_0 : ByteArray) (a0_1 : Int) (a0_2 : Bool) : Option (ByteArray × Int × Bool) := some (a0_0, a0_1, a0_2)
set_option maxHeartbeats 8000000 in
set_option maxRecDepth 100000 in
theorem laws_toOp.calls (a0_0 : ByteArray) (a0_1 : Int) (a0_2 : Bool) (r1 : ByteArray) (r2 : Int) (r3 : Bool) (w : World) (h : laws_toOp.f a0_0 a0_1 a0_2 = some (r1, r2, r3)) :
    Calls Try.prog 95 #[.agg #[.string a0_0, .int .i64 a0_1, .bool a0_2]] w fun e w' => e = .returned (.agg #[.string r1, .int .i64 r2, .bool r3]) ∧ Below w.heap.size w w' := by
  have hu134 := Try.underlying134
  have hu128 := Try.underlying128
  have HB := Aside0.mk (Below.refl w.heap.size w)
  have H : (some (a0_0, a0_1, a0_2)) = some (r1, r2, r3) := h
  clear h
  simp only [Option.some.injEq, Prod.mk.injEq] at H
  obtain ⟨rfl, rfl, rfl⟩ := H
  go_enter Try.func95, Try.ntmps95
  go_wp2_with (first | ((with_reducible refine gate_dst (N := 1) rfl ?_); refine box_event ?hg (N := 1) ?hd (cs := #[.string a0_0, .int .i64 a0_1, .bool a0_2]) (t := 134) ?hr ?_; (case hd => rfl); (case hg => rfl); (case hr => first | (go_simp; done) | (go_simp; rfl)); intro gb225 hg w2 hbox hb; have n0_ := Aside0.mk (below_step bw hb); have n1_ := Aside0.mk (hbox); have n2_ := Aside0.mk ((bz bw hg : w.heap.size ≤ gb225)); have n3_ := Aside0.mk ((bz bw hg : w.heap.size ≤ gb225)); clear HB; have HB := n0_; have BK225 := n1_; have GW225 := n2_; have GE225 := n3_; clear n0_ n1_ n2_ n3_; clear hb hbox hg) | ((with_reducible refine gate_dst (N := 2) rfl ?_); refine box_event ?hg (N := 2) ?hd (cs := #[.string (⟨#[]⟩ : ByteArray), .int .i64 0, .bool false]) (t := 128) ?hr ?_; (case hd => rfl); (case hg => rfl); (case hr => first | (go_simp; done) | (go_simp; rfl)); intro gb226 hg w3 hbox hb; have n0_ := Aside0.mk (blk_below (g := gb225) (o := .cells #[.string a0_0, .int .i64 a0_1, .bool a0_2] 134 (0, 0)) bx hb); have n1_ := Aside0.mk (below_step bw hb); have n2_ := Aside0.mk (hbox); have n3_ := Aside0.mk ((bz bw hg : w.heap.size ≤ gb226)); have n4_ := Aside0.mk ((bz bw hg : w.heap.size ≤ gb226)); have n5_ := Aside0.mk ((bl bx hg : gb225 ≠ gb226)); have n6_ := Aside0.mk ((bl' bx hg : gb226 ≠ gb225)); clear BK225; clear HB; have BK225 := n0_; have HB := n1_; have BK226 := n2_; have GW226 := n3_; have GE226 := n4_; have NB225_226 := n5_; have NB226_225 := n6_; clear n0_ n1_ n2_ n3_ n4_ n5_ n6_; clear hb hbox hg) | ((with_reducible refine gate_dst (N := 3) rfl ?_); refine box_event ?hg (N := 3) ?hd (cs := #[.string (⟨#[]⟩ : ByteArray), .int .i64 0, .bool false]) (t := 128) ?hr ?_; (case hd => rfl); (case hg => rfl); (case hr => first | (go_simp; done) | (go_simp; rfl)); intro gb227 hg w4 hbox hb; have n0_ := Aside0.mk (blk_below (g := gb225) (o := .cells #[.string a0_0, .int .i64 a0_1, .bool a0_2] 134 (0, 0)) bx hb); have n1_ := Aside0.mk (blk_below (g := gb226) (o := .cells #[.string (⟨#[]⟩ : ByteArray), .int .i64 0, .bool false] 128 (0, 0)) bx hb); have n2_ := Aside0.mk (below_step bw hb); have n3_ := Aside0.mk (hbox); have n4_ := Aside0.mk ((bz bw hg : w.heap.size ≤ gb227)); have n5_ := Aside0.mk ((bz bw hg : w.heap.size ≤ gb227)); have n6_ := Aside0.mk ((bl bx hg : gb225 ≠ gb227)); have n7_ := Aside0.mk ((bl' bx hg : gb227 ≠ gb225)); have n8_ := Aside0.mk ((bl bx hg : gb226 ≠ gb227)); have n9_ := Aside0.mk ((bl' bx hg : gb227 ≠ gb226)); clear BK225; clear BK226; clear HB; have BK225 := n0_; have BK226 := n1_; have HB := n2_; have BK227 := n3_; have GW227 := n4_; have GE227 := n5_; have NB225_227 := n6_; have NB227_225 := n7_; have NB226_227 := n8_; have NB227_226 := n9_; clear n0_ n1_ n2_ n3_ n4_ n5_ n6_ n7_ n8_ n9_; clear hb hbox hg; have hnb5 := NB225_226.out; have hnc5 := NB226_225.out; have hnb6 := NB225_227.out; have hnc6 := NB227_225.out; obtain ⟨hcz7_0, hcz7_1, hcz7_2, hfz7_0, hfz7_1, hfz7_2⟩ := bc3 BK225.out; have hnb8 := NB227_226.out; have hnc8 := NB226_227.out; obtain ⟨hcz9_0, hcz9_1, hcz9_2, hfz9_0, hfz9_1, hfz9_2⟩ := bc3 BK227.out; obtain ⟨hcz10_0, hcz10_1, hcz10_2, hfz10_0, hfz10_1, hfz10_2⟩ := bc3 BK226.out))
  refine bodyPost_ret (results_cell_row rfl _ _ gb226 128 #[.string a0_0, .int .i64 a0_1, .bool a0_2] (0, 0) _ rfl bx Try.underlying128 rfl (by kernel_rfl)) rfl ?_
  exact ⟨by first | rfl | (simp [errW_none, errW_some] <;> rfl) | (simp [*, errW_none, errW_some] <;> rfl), by repeat (first | (with_reducible first | exact HB.out | apply below_alloc | apply pw_below_drewN | apply below_drew1 | refine below_set ?_ GE225.out | refine below_set ?_ GE226.out | refine below_set ?_ GE227.out) | exact HB.out)⟩

/-! ### laws_toOpS: function 38 -/
def laws_toOpS.l0 : Nat → List (S134) → List (S128) → Int → Option ((List (S128)))
  | 0, _, _, _ => none
  | k + 1, x0, x3, x4 => if x4 < (x0.length : Int) then (if 0 ≤ x4 then ((laws_toOp.f ((rd_T134 x0 x4).f0) ((rd_T134 x0 x4).f1) ((rd_T134 x0 x4).f2)).bind fun bt232 => (if x4 < (x3.length : Int) then (laws_toOpS.l0 k x0 (x3.set (x4 : Int).toNat (⟨bt232.1, bt232.2.1, bt232.2.2⟩ : S128)) (wrap64 (x4 + 1))) else (none))) else (none)) else (some x3)
def laws_toOpS.f (k : Nat) (l0 : List (S134)) : Option ((List (S128))) := if 0 ≤ (l0.length : Int) then (if ((l0.length : Int) : Int).toNat ≤ 8796093022208 then (laws_toOpS.l0 k l0 (List.replicate ((l0.length : Int) : Int).toNat z128) 0) else (none)) else (none)
theorem laws_toOpS.mono_l : ∀ k, (∀ y0 y1 y2, LeO (laws_toOpS.l0 k y0 y1 y2) (laws_toOpS.l0 (k + 1) y0 y1 y2))
  | 0 => fun _ _ _ r h => by simp [laws_toOpS.l0] at h
  | k + 1 => by
    have ih0 := laws_toOpS.mono_l k
    · intro y0 y1 y2
      unfold laws_toOpS.l0
      repeat' first
      | (with_reducible exact ih0 _ _ _)
      | (with_reducible exact LeO.refl _)
      | (with_reducible exact LeO.none _)
      | (with_reducible refine LeO.ite ?_ ?_)
      | (with_reducible refine LeO.bind ?_ (fun _ => ?_))
      | exact ih0 _ _ _
      | exact LeO.none _
      | refine LeO.ite ?_ ?_
      | refine LeO.bind ?_ (fun _ => ?_)
theorem laws_toOpS.mono : ∀ a0 k, LeO (laws_toOpS.f k a0) (laws_toOpS.f (k + 1) a0) := by
  intro a0 k
  have ih0 := laws_toOpS.mono_l k
  unfold laws_toOpS.f
  repeat' first
      | (with_reducible exact ih0 _ _ _)
      | (with_reducible exact LeO.refl _)
      | (with_reducible exact LeO.none _)
      | (with_reducible refine LeO.ite ?_ ?_)
      | (with_reducible refine LeO.bind ?_ (fun _ => ?_))
      | exact ih0 _ _ _
      | exact LeO.none _
      | refine LeO.ite ?_ ?_
      | refine LeO.bind ?_ (fun _ => ?_)
set_option maxHeartbeats 8000000 in
set_option maxRecDepth 100000 in
theorem laws_toOpS.calls (k : Nat) (A0 : Option Addr) (c0 : Nat) (l0 : List (S134)) (r : List (S128)) (w : World) (hr0 : Kd.C k134 w A0 l0.length l0) (hc0 : l0.length ≤ c0) (h : laws_toOpS.f k l0 = some r) :
    Calls Try.prog 38 #[.slice A0 l0.length c0] w fun e w' => ∃ v0_ : Value, e = .returned (v0_) ∧ Kd.R k128 128 w' w.heap.size (fun _ => True) v0_ r ∧ Below w.heap.size w w' := by
  have hu134 := Try.underlying134
  have hu128 := Try.underlying128
  have HR0 := Aside0.mk hr0
  have HC0 := Aside0.mk hc0
  clear hr0 hc0
  have HB := Aside0.mk (Below.refl w.heap.size w)
  have H : (if 0 ≤ (l0.length : Int) then (if ((l0.length : Int) : Int).toNat ≤ 8796093022208 then (laws_toOpS.l0 k l0 (List.replicate ((l0.length : Int) : Int).toNat z128) 0) else (none)) else (none)) = some r := h
  clear h
  by_cases c2 : 0 ≤ (l0.length : Int)
  · rw [if_pos c2] at H
    have c2b0 := eq_true c2
    have c2b1 : decide (0 ≤ (l0.length : Int)) = true := decide_eq_true c2
    clear c2
    by_cases c3 : ((l0.length : Int) : Int).toNat ≤ 8796093022208
    · rw [if_pos c3] at H
      have c3b0 := eq_true c3
      have c3b1 : decide (((l0.length : Int) : Int).toNat ≤ 8796093022208) = true := decide_eq_true c3
      clear c3
      obtain ⟨y228, hy228⟩ : ∃ y_ : List (S128), y_ = (List.replicate ((l0.length : Int) : Int).toNat z128) := ⟨_, rfl⟩
      replace H : (laws_toOpS.l0 k l0 y228 0) = some r := by first | (rw [hy228]; with_reducible exact H) | (have H2_ := (Option.bind_some _ _).symm.trans H; rw [hy228]; with_reducible exact H2_) | (have H2_ := (Option.bind_some _ _).symm.trans H; with_reducible exact H2_) | with_reducible exact H | (rw [hy228]; exact H) | exact H
      have Ny228 := Aside0.mk hy228
      clear hy228
      have H' := Aside0.mk H
      clear H
      go_enter Try.func38, Try.ntmps38
      go_wp2_with (first | ((with_reducible refine gate_dst (N := 7) rfl ?_); refine Kd.R_make k128 _ 128 rfl (N := 7) rfl 52 _ _ rfl (l0.length : Int) rfl rfl Try.underlying52 (.agg #[(.string ⟨#[]⟩), (.int .i64 0), (.bool false)]) 32 info128 rfl (by decide) (by omega) z128 (ok := fun _ => True) (okp := fun _ => True) (k128_mkM _ _ _ z128 ) (fun _ hk => hk) trivial (oa) (Nat.le_trans (Nat.mul_le_mul_right _ (oa : (l0.length : Int).toNat ≤ 8796093022208)) (by omega)) (Below.refl _ _) (Nat.le_refl _) ?_; intro v229 w4 ho5 hb hg_ hnew_; clear hg_ hnew_; (first | rw [← Ny228.out] at ho5 | (simp only [Int.reduceToNat] at ho5; rw [← Ny228.out] at ho5)); have n0_ := Aside0.mk (Kd.R_lower ho5 (below_size bw)); have n1_ := Aside0.mk (below_step bw hb); clear HB; have HO230 := n0_; have HB := n1_; clear n0_ n1_; clear hb ho5))
      go_loopg [4] k (fun kq v4 w' => ∃ (x3_1 : List (S128)) (x4_1 : Int), v4 = .int .i64 x4_1 ∧ Aside0 (laws_toOpS.l0 kq l0 x3_1 x4_1 = some r) ∧ Aside0 (kq ≤ k) ∧ Aside0 (Kd.R k128 128 w' w.heap.size (fun _ => True) v229 x3_1) ∧ Aside0 (Below w.heap.size w w'))
      case atStart => exact ⟨(y228), (0), (by first | rfl | (simp; done) | (simp [*]; done) | (simp [isE0, isE1]; done)), H', ⟨Nat.le_refl _⟩, ⟨by (with_reducible repeat (first | apply Kd.R_alloc | apply Kd.R_drewN | apply Kd.R_drew)); exact HO230.out⟩, ⟨by repeat (first | (with_reducible first | exact HB.out | apply below_alloc | apply pw_below_drewN | apply below_drew1) | exact HB.out)⟩⟩
      case round =>
        clear H'
        try clear c2
        try clear c2b0
        try clear c2b1
        try clear p2
        try clear c3
        try clear c3b0
        try clear c3b1
        obtain ⟨x3_1, x4_1, rfl, HA, HK1, HO_3, HB⟩ := hrel
        cases gk with
        | zero => exact absurd HA.out (by simp [laws_toOpS.l0])
        | succ k1 =>
          have H := HA.out
          clear HA
          simp only [laws_toOpS.l0] at H
          by_cases c6 : x4_1 < (l0.length : Int)
          · rw [if_pos c6] at H
            have c6b0 : decide (x4_1 < (l0.length : Int)) = true := decide_eq_true c6
            clear c6
            by_cases c7 : 0 ≤ x4_1
            · rw [if_pos c7] at H
              have c7b0 : decide (0 ≤ x4_1) = true := decide_eq_true c7
              clear c7
              replace H := Option.bind_eq_some_iff.mp H
              obtain ⟨⟨t232, t233, t234⟩, A80, H⟩ := H
              replace H : (if x4_1 < (x3_1.length : Int) then (laws_toOpS.l0 k1 l0 (x3_1.set (x4_1 : Int).toNat (⟨t232, t233, t234⟩ : S128)) (wrap64 (x4_1 + 1))) else (none)) = some r := H
              have A8 := Aside0.mk A80
              clear A80
              by_cases c9 : x4_1 < (x3_1.length : Int)
              · rw [if_pos c9] at H
                have c9b0 : decide (x4_1 < (x3_1.length : Int)) = true := decide_eq_true c9
                clear c9
                obtain ⟨y235, hy235⟩ : ∃ y_ : List (S128), y_ = (x3_1.set (x4_1 : Int).toNat (⟨t232, t233, t234⟩ : S128)) := ⟨_, rfl⟩
                replace H : (laws_toOpS.l0 k1 l0 y235 (wrap64 (x4_1 + 1))) = some r := by first | (rw [hy235]; with_reducible exact H) | (have H2_ := (Option.bind_some _ _).symm.trans H; rw [hy235]; with_reducible exact H2_) | (have H2_ := (Option.bind_some _ _).symm.trans H; with_reducible exact H2_) | with_reducible exact H | (rw [hy235]; exact H) | exact H
                have Ny235 := Aside0.mk hy235
                clear hy235
                have H' := Aside0.mk H
                clear H
                have p231 : 0 ≤ (x4_1 : Int) := oa
                have q231 : x4_1 < (l0.length : Int) := oa
                obtain ⟨ad231, e231, hx231_0, hx231_1, hx231_2⟩ := at_T134 HR0.out x4_1 p231 q231
                cases e231
                replace hx231_0 := hbc HB.out hx231_0
                replace hx231_1 := hbc HB.out hx231_1
                replace hx231_2 := hbc HB.out hx231_2
                replace p231 := eq_true p231
                replace q231 := eq_true q231
                go_wp2_with (first | ((with_reducible refine gate_callee (f := 95) rfl ?_); refine goesL_ (some 20) rfl rfl Try.func95 (by kernel_rfl) rfl #[.agg #[.string ((rd_T134 l0 x4_1).f0), .int .i64 ((rd_T134 l0 x4_1).f1), .bool ((rd_T134 l0 x4_1).f2)]] rfl (by (try simp only [List.map_toArray, List.map_cons, List.map_nil]); first | done | rfl | (simp only [List.length_drop, List.length_take]; rfl)) ?_; (with_reducible refine (laws_toOp.calls ((rd_T134 l0 x4_1).f0) ((rd_T134 l0 x4_1).f1) ((rd_T134 l0 x4_1).f2) t232 t233 t234 _ A8.out).mono ?_); rintro e w11 ⟨rfl, hb⟩; refine ⟨_, rfl, ?_⟩; have n0_ := Aside0.mk (Kd.R_below (by (with_reducible repeat (first | apply Kd.R_alloc | apply Kd.R_drewN | apply Kd.R_drew)); exact HO_3.out) hb); have n1_ := Aside0.mk (below_step bw hb); clear HO_3; clear HB; have HO_3 := n0_; have HB := n1_; clear n0_ n1_; (try clear hb); (try clear hb2); (try clear hk); (try clear hi); have p10 : 0 ≤ (x4_1 : Int) := oa; have q10 : (x4_1 : Int) < ((x3_1.length : Int) : Int) := oa; obtain ⟨go10, co10, eo10, gb10, gl10, cl10, HG10⟩ := Kd.R_form HO_3.out (by omega); (first | cases eo10 | (injection eo10 with ea_ en_ ec_; (first | subst ea_ | (injection ea_ with ea_; subst ea_)); subst ec_; clear en_)); have GB10 := Aside0.mk gb10; have GG10 := Aside0.mk HG10; clear gb10 gl10 HG10; obtain ⟨ce10, hcl10, hM10, hcc10, hfr10⟩ := Kd.R_elem HO_3.out z128 (x4_1 : Int) p10 q10; obtain rfl := k128_openM hM10; have hx10_0 : w11.cell? ⟨go10, (x4_1 : Int).toNat * 3, none⟩ = some (.string ((rd_T128 x3_1 x4_1).f0)) := hcc10 0 _ rfl; have hx10_1 : w11.cell? ⟨go10, (x4_1 : Int).toNat * 3 + 1, none⟩ = some (.int .i64 ((rd_T128 x3_1 x4_1).f1)) := hcc10 1 _ rfl; have hx10_2 : w11.cell? ⟨go10, (x4_1 : Int).toNat * 3 + 2, none⟩ = some (.bool ((rd_T128 x3_1 x4_1).f2)) := hcc10 2 _ rfl; have hf10_0 : w11.frozen? ⟨go10, (x4_1 : Int).toNat * 3, none⟩ = false := hfr10 0; have hf10_1 : w11.frozen? ⟨go10, (x4_1 : Int).toNat * 3 + 1, none⟩ = false := hfr10 1; have hf10_2 : w11.frozen? ⟨go10, (x4_1 : Int).toNat * 3 + 2, none⟩ = false := hfr10 2; clear hcl10 hcc10 hfr10 hM10; replace p10 := eq_true p10; replace q10 := eq_true q10; have HX12 := Aside0.mk (show Kd.R k128 128 w11 w.heap.size (fun _ => True) (.slice (some ⟨go10, 0, none⟩) x3_1.length co10) x3_1 from (by (with_reducible repeat (first | apply Kd.R_alloc | apply Kd.R_drewN | apply Kd.R_drew)); exact HO_3.out)); obtain ⟨ce12, hcl12, hM12, hcc12, hfr12⟩ := Kd.R_elem HX12.out z128 (x4_1 : Int) (oa) (by have h_ : (x4_1 : Int) < ((x3_1.length : Int) : Int) := oa; first | exact h_ | (have e_ := (Kd.R_reads' HO_3.out).1; omega) | simpa using h_); obtain rfl := k128_openM hM12; have HP12 := Kd.R_seg HX12.out (x4_1 : Int) (oa) (by have h_ : (x4_1 : Int) < ((x3_1.length : Int) : Int) := oa; first | exact h_ | (have e_ := (Kd.R_reads' HO_3.out).1; omega) | simpa using h_) (seg := [.string t232, .int .i64 t233, .bool t234]) (j := 0) hcl12 hcc12 (show 3 ≤ 3 from by decide) (x' := (⟨t232, t233, t234⟩ : S128)) (k128_mkM _ _ _ (⟨t232, t233, t234⟩ : S128) ) (fun _ hk => hk); have hx12_0 := hcc12 0 _ rfl; (try simp only [show (k128).sz = 3 from rfl, Nat.mul_one, Nat.add_zero] at hx12_0); have hf12_0 := hfr12 0; (try simp only [show (k128).sz = 3 from rfl, Nat.mul_one, Nat.add_zero] at hf12_0); have hx12_1 := hcc12 1 _ rfl; (try simp only [show (k128).sz = 3 from rfl, Nat.mul_one, Nat.add_zero] at hx12_1); have hf12_1 := hfr12 1; (try simp only [show (k128).sz = 3 from rfl, Nat.mul_one, Nat.add_zero] at hf12_1); have hx12_2 := hcc12 2 _ rfl; (try simp only [show (k128).sz = 3 from rfl, Nat.mul_one, Nat.add_zero] at hx12_2); have hf12_2 := hfr12 2; (try simp only [show (k128).sz = 3 from rfl, Nat.mul_one, Nat.add_zero] at hf12_2); clear hcl12 hcc12 hfr12 hM12) | ((with_reducible refine gate_store (t := 128) (p := 21) rfl ?_); refine store_event (t := 128) (p := 21) (v := ?vo_w13) (w1 := (((w11.setCell ⟨go10, (x4_1 : Int).toNat * 3, none⟩ (.string t232)).setCell ⟨go10, (x4_1 : Int).toNat * 3 + 1, none⟩ (.int .i64 t233)).setCell ⟨go10, (x4_1 : Int).toNat * 3 + 2, none⟩ (.bool t234))) ?hg ?ho ?hn ?hr ?_; (case ho => rfl); (case hg => rfl); (case hn => rfl); (case hr => first | (go_simp; done) | (go_simp; rfl)); intro w13 hw; have hg : w11.grownBy w13 (some go10) := (by rw [hw]; exact HP12.2); have hp_ : Kd.R k128 128 w13 w.heap.size (fun _ => True) (.slice (some ⟨go10, 0, none⟩) x3_1.length co10) y235 := (by rw [hw, Ny235.out]; exact HP12.1); clear HP12; have n0_ := Aside0.mk (hp_); have n1_ := Aside0.mk ((by rw [hw]; exact below_set (below_set (below_set (HB.out) GB10.out) GB10.out) GB10.out : Below w.heap.size w w13)); clear HO_3; clear HB; have HO_3 := n0_; have HB := n1_; clear n0_ n1_; clear hg hw hp_))
                go_roundg k1
                case measure => have := HK1.out; omega
                case rel => exact ⟨(y235), (wrap64 (x4_1 + 1)), (by first | rfl | (simp; done) | (simp [*]; done) | (simp [isE0, isE1]; done)), H', ⟨by have := HK1.out; omega⟩, ⟨by (with_reducible repeat (first | apply Kd.R_alloc | apply Kd.R_drewN | apply Kd.R_drew)); exact HO_3.out⟩, ⟨by repeat (first | (with_reducible first | exact HB.out | apply below_alloc | apply pw_below_drewN | apply below_drew1) | exact HB.out)⟩⟩
              · rw [if_neg c9] at H
                exact absurd H (by simp)
            · rw [if_neg c7] at H
              exact absurd H (by simp)
          · rw [if_neg c6] at H
            have c6b0 : decide (x4_1 < (l0.length : Int)) = false := decide_eq_false c6
            clear c6
            obtain rfl := Option.some.inj H
            go_wp2
            go_ret
            exact ⟨_, by first | rfl | (simp [errW_none, errW_some] <;> rfl) | (simp [*, errW_none, errW_some] <;> rfl), by (with_reducible repeat (first | apply Kd.R_alloc | apply Kd.R_drewN | apply Kd.R_drew)); exact HO_3.out, by repeat (first | (with_reducible first | exact HB.out | apply below_alloc | apply pw_below_drewN | apply below_drew1) | exact HB.out)⟩
    · rw [if_neg c3] at H
      exact absurd H (by simp)
  · rw [if_neg c2] at H
    exact absurd H (by simp)

end Go.Proofs.Ytlkbdoejeomlmaa.PFnExactClimb
