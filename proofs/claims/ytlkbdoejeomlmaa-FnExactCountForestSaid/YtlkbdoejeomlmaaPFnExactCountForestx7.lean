/- Written by a program of this session out of Lean's print of the translation: what the calls of these Go functions come to, in plain Lean. No condition. -/
import Derived.Test.YtlkbdoejeomlmaaPFnExactCountForestx0
import Derived.Test.YtlkbdoejeomlmaaPFnExactCountForestx6
namespace Go.Proofs.Ytlkbdoejeomlmaa.PFnExactCountForest
open Go.RowKit Go.Proofs.YtlkbdoejeomlmaaW.PrintWords Go.Proofs.YtlkbdoejeomlmaaW.PrintLast Go.Proofs.YtlkbdoejeomlmaaW.PrintMore
attribute [local go_sem] max2_int min2_int max_two min_two max_three min_three max_four min_four   -- for this text's walks alone
set_option linter.unusedVariables false
set_option linter.unusedSimpArgs false

/-! ### impl_CountForest: function 35 -/
mutual
def impl_CountForest.j0 : Nat → Int → Bool → List (S118) → Option (Int)
  | 0, _, _, _ => none
  | k + 1, x1, x27, x213000 => if x27 = true then (some 0) else (if 0 ≤ (x213000.length : Int) then (if ((x213000.length : Int) : Int).toNat ≤ 35184372088832 then (impl_CountForest.l0 k (List.replicate ((x213000.length : Int) : Int).toNat 0) (mn x1 8) 0 x213000) else (none)) else (none))
def impl_CountForest.l0 : Nat → List Int → Int → Int → List (S118) → Option (Int)
  | 0, _, _, _, _ => none
  | k + 1, x5, x33, x34, x213000 => if x34 < x33 then (impl_CountForest.l1 k x5 (([] : List Int)) x33 x34 x213000 (x213000.length : Int) 0 x213000) else (if 0 < (x5.length : Int) then (some (rd x5 0)) else (none))
def impl_CountForest.l1 : Nat → List Int → List Int → Int → Int → List (S118) → Int → Int → List (S118) → Option (Int)
  | 0, _, _, _, _, _, _, _, _ => none
  | k + 1, x5, x6, x33, x34, x38, x39, x40, x213000 => if x40 < x39 then (if 0 ≤ x40 then (if x40 < (x38.length : Int) then (impl_CountForest.l2 k x5 x6 0 x33 x34 x38 x39 x40 ((rd_T118 x38 x40).f4) (((rd_T118 x38 x40).f4).length : Int) 0 x213000) else (none)) else (none)) else (impl_CountForest.l0 k x6 x33 (wrap64 (x34 + 1)) x213000)
def impl_CountForest.l2 : Nat → List Int → List Int → Int → Int → Int → List (S118) → Int → Int → List (S131) → Int → Int → List (S118) → Option (Int)
  | 0, _, _, _, _, _, _, _, _, _, _, _, _ => none
  | k + 1, x5, x6, x9, x33, x34, x38, x39, x40, x45, x46, x47, x213000 => if x47 < x46 then (if 0 ≤ x47 then (if x47 < (x45.length : Int) then (impl_CountForest.l3 k x5 x6 x9 1 x33 x34 x38 x39 x40 x45 x46 x47 ((rd_T131 x45 x47).f1) (((rd_T131 x45 x47).f1).length : Int) 0 x213000) else (none)) else (none)) else (if x6.length < 17592186044416 then (impl_CountForest.l1 k x5 (x6 ++ [x9]) x33 x34 x38 x39 (wrap64 (x40 + 1)) x213000) else (none))
def impl_CountForest.l3 : Nat → List Int → List Int → Int → Int → Int → Int → List (S118) → Int → Int → List (S131) → Int → Int → List Int → Int → Int → List (S118) → Option (Int)
  | 0, _, _, _, _, _, _, _, _, _, _, _, _, _, _, _, _ => none
  | k + 1, x5, x6, x9, x12, x33, x34, x38, x39, x40, x45, x46, x47, x52, x53, x54, x213000 => if x54 < x53 then (if 0 ≤ x54 then (if x54 < (x52.length : Int) then (if 0 ≤ (rd x52 x54) then (if (rd x52 x54) < (x5.length : Int) then (impl_CountForest.l3 k x5 x6 x9 (mn (wrap64 (x12 * (rd x5 (rd x52 x54)))) 1000000) x33 x34 x38 x39 x40 x45 x46 x47 x52 x53 (wrap64 (x54 + 1)) x213000) else (none)) else (none)) else (none)) else (none)) else (impl_CountForest.l2 k x5 x6 (mn (wrap64 (x9 + x12)) 1000000) x33 x34 x38 x39 x40 x45 x46 (wrap64 (x47 + 1)) x213000)
end
def impl_CountForest.f (k : Nat) (l0_0 : List (S118)) (a1 : Int) : Option (Int) := if (l0_0.length : Int) = 0 then (impl_CountForest.j0 k a1 true l0_0) else ((impl_kidsThere.f k l0_0).bind fun t213 => (if t213 = true then (impl_CountForest.j0 k a1 (decide (a1 < 1)) l0_0) else (impl_CountForest.j0 k a1 true l0_0)))
theorem impl_CountForest.mono_l : ∀ k, (∀ y0 y1 y2, LeO (impl_CountForest.j0 k y0 y1 y2) (impl_CountForest.j0 (k + 1) y0 y1 y2)) ∧ (∀ y0 y1 y2 y3, LeO (impl_CountForest.l0 k y0 y1 y2 y3) (impl_CountForest.l0 (k + 1) y0 y1 y2 y3)) ∧ (∀ y0 y1 y2 y3 y4 y5 y6 y7, LeO (impl_CountForest.l1 k y0 y1 y2 y3 y4 y5 y6 y7) (impl_CountForest.l1 (k + 1) y0 y1 y2 y3 y4 y5 y6 y7)) ∧ (∀ y0 y1 y2 y3 y4 y5 y6 y7 y8 y9 y10 y11, LeO (impl_CountForest.l2 k y0 y1 y2 y3 y4 y5 y6 y7 y8 y9 y10 y11) (impl_CountForest.l2 (k + 1) y0 y1 y2 y3 y4 y5 y6 y7 y8 y9 y10 y11)) ∧ (∀ y0 y1 y2 y3 y4 y5 y6 y7 y8 y9 y10 y11 y12 y13 y14 y15, LeO (impl_CountForest.l3 k y0 y1 y2 y3 y4 y5 y6 y7 y8 y9 y10 y11 y12 y13 y14 y15) (impl_CountForest.l3 (k + 1) y0 y1 y2 y3 y4 y5 y6 y7 y8 y9 y10 y11 y12 y13 y14 y15))
  | 0 => ⟨fun _ _ _ r h => by simp [impl_CountForest.j0] at h, fun _ _ _ _ r h => by simp [impl_CountForest.l0] at h, fun _ _ _ _ _ _ _ _ r h => by simp [impl_CountForest.l1] at h, fun _ _ _ _ _ _ _ _ _ _ _ _ r h => by simp [impl_CountForest.l2] at h, fun _ _ _ _ _ _ _ _ _ _ _ _ _ _ _ _ r h => by simp [impl_CountForest.l3] at h⟩
  | k + 1 => by
    obtain ⟨ih0, ih1, ih2, ih3, ih4⟩ := impl_CountForest.mono_l k
    refine ⟨?_, ?_, ?_, ?_, ?_⟩
    · intro y0 y1 y2
      unfold impl_CountForest.j0
      repeat' first
      | (with_reducible exact ih0 _ _ _)
      | (with_reducible exact ih1 _ _ _ _)
      | (with_reducible exact ih2 _ _ _ _ _ _ _ _)
      | (with_reducible exact ih3 _ _ _ _ _ _ _ _ _ _ _ _)
      | (with_reducible exact ih4 _ _ _ _ _ _ _ _ _ _ _ _ _ _ _ _)
      | (with_reducible exact impl_kidsThere.mono _ _)
      | (with_reducible exact LeO.refl _)
      | (with_reducible exact LeO.none _)
      | (with_reducible refine LeO.ite ?_ ?_)
      | (with_reducible refine LeO.bind ?_ (fun _ => ?_))
      | exact ih0 _ _ _
      | exact ih1 _ _ _ _
      | exact ih2 _ _ _ _ _ _ _ _
      | exact ih3 _ _ _ _ _ _ _ _ _ _ _ _
      | exact ih4 _ _ _ _ _ _ _ _ _ _ _ _ _ _ _ _
      | exact impl_kidsThere.mono _ _
      | exact LeO.none _
      | refine LeO.ite ?_ ?_
      | refine LeO.bind ?_ (fun _ => ?_)
    · intro y0 y1 y2 y3
      unfold impl_CountForest.l0
      repeat' first
      | (with_reducible exact ih0 _ _ _)
      | (with_reducible exact ih1 _ _ _ _)
      | (with_reducible exact ih2 _ _ _ _ _ _ _ _)
      | (with_reducible exact ih3 _ _ _ _ _ _ _ _ _ _ _ _)
      | (with_reducible exact ih4 _ _ _ _ _ _ _ _ _ _ _ _ _ _ _ _)
      | (with_reducible exact impl_kidsThere.mono _ _)
      | (with_reducible exact LeO.refl _)
      | (with_reducible exact LeO.none _)
      | (with_reducible refine LeO.ite ?_ ?_)
      | (with_reducible refine LeO.bind ?_ (fun _ => ?_))
      | exact ih0 _ _ _
      | exact ih1 _ _ _ _
      | exact ih2 _ _ _ _ _ _ _ _
      | exact ih3 _ _ _ _ _ _ _ _ _ _ _ _
      | exact ih4 _ _ _ _ _ _ _ _ _ _ _ _ _ _ _ _
      | exact impl_kidsThere.mono _ _
      | exact LeO.none _
      | refine LeO.ite ?_ ?_
      | refine LeO.bind ?_ (fun _ => ?_)
    · intro y0 y1 y2 y3 y4 y5 y6 y7
      unfold impl_CountForest.l1
      repeat' first
      | (with_reducible exact ih0 _ _ _)
      | (with_reducible exact ih1 _ _ _ _)
      | (with_reducible exact ih2 _ _ _ _ _ _ _ _)
      | (with_reducible exact ih3 _ _ _ _ _ _ _ _ _ _ _ _)
      | (with_reducible exact ih4 _ _ _ _ _ _ _ _ _ _ _ _ _ _ _ _)
      | (with_reducible exact impl_kidsThere.mono _ _)
      | (with_reducible exact LeO.refl _)
      | (with_reducible exact LeO.none _)
      | (with_reducible refine LeO.ite ?_ ?_)
      | (with_reducible refine LeO.bind ?_ (fun _ => ?_))
      | exact ih0 _ _ _
      | exact ih1 _ _ _ _
      | exact ih2 _ _ _ _ _ _ _ _
      | exact ih3 _ _ _ _ _ _ _ _ _ _ _ _
      | exact ih4 _ _ _ _ _ _ _ _ _ _ _ _ _ _ _ _
      | exact impl_kidsThere.mono _ _
      | exact LeO.none _
      | refine LeO.ite ?_ ?_
      | refine LeO.bind ?_ (fun _ => ?_)
    · intro y0 y1 y2 y3 y4 y5 y6 y7 y8 y9 y10 y11
      unfold impl_CountForest.l2
      repeat' first
      | (with_reducible exact ih0 _ _ _)
      | (with_reducible exact ih1 _ _ _ _)
      | (with_reducible exact ih2 _ _ _ _ _ _ _ _)
      | (with_reducible exact ih3 _ _ _ _ _ _ _ _ _ _ _ _)
      | (with_reducible exact ih4 _ _ _ _ _ _ _ _ _ _ _ _ _ _ _ _)
      | (with_reducible exact impl_kidsThere.mono _ _)
      | (with_reducible exact LeO.refl _)
      | (with_reducible exact LeO.none _)
      | (with_reducible refine LeO.ite ?_ ?_)
      | (with_reducible refine LeO.bind ?_ (fun _ => ?_))
      | exact ih0 _ _ _
      | exact ih1 _ _ _ _
      | exact ih2 _ _ _ _ _ _ _ _
      | exact ih3 _ _ _ _ _ _ _ _ _ _ _ _
      | exact ih4 _ _ _ _ _ _ _ _ _ _ _ _ _ _ _ _
      | exact impl_kidsThere.mono _ _
      | exact LeO.none _
      | refine LeO.ite ?_ ?_
      | refine LeO.bind ?_ (fun _ => ?_)
    · intro y0 y1 y2 y3 y4 y5 y6 y7 y8 y9 y10 y11 y12 y13 y14 y15
      unfold impl_CountForest.l3
      repeat' first
      | (with_reducible exact ih0 _ _ _)
      | (with_reducible exact ih1 _ _ _ _)
      | (with_reducible exact ih2 _ _ _ _ _ _ _ _)
      | (with_reducible exact ih3 _ _ _ _ _ _ _ _ _ _ _ _)
      | (with_reducible exact ih4 _ _ _ _ _ _ _ _ _ _ _ _ _ _ _ _)
      | (with_reducible exact impl_kidsThere.mono _ _)
      | (with_reducible exact LeO.refl _)
      | (with_reducible exact LeO.none _)
      | (with_reducible refine LeO.ite ?_ ?_)
      | (with_reducible refine LeO.bind ?_ (fun _ => ?_))
      | exact ih0 _ _ _
      | exact ih1 _ _ _ _
      | exact ih2 _ _ _ _ _ _ _ _
      | exact ih3 _ _ _ _ _ _ _ _ _ _ _ _
      | exact ih4 _ _ _ _ _ _ _ _ _ _ _ _ _ _ _ _
      | exact impl_kidsThere.mono _ _
      | exact LeO.none _
      | refine LeO.ite ?_ ?_
      | refine LeO.bind ?_ (fun _ => ?_)
theorem impl_CountForest.mono : ∀ a0 a1 k, LeO (impl_CountForest.f k a0 a1) (impl_CountForest.f (k + 1) a0 a1) := by
  intro a0 a1 k
  obtain ⟨ih0, ih1, ih2, ih3, ih4⟩ := impl_CountForest.mono_l k
  unfold impl_CountForest.f
  repeat' first
      | (with_reducible exact ih0 _ _ _)
      | (with_reducible exact ih1 _ _ _ _)
      | (with_reducible exact ih2 _ _ _ _ _ _ _ _)
      | (with_reducible exact ih3 _ _ _ _ _ _ _ _ _ _ _ _)
      | (with_reducible exact ih4 _ _ _ _ _ _ _ _ _ _ _ _ _ _ _ _)
      | (with_reducible exact impl_kidsThere.mono _ _)
      | (with_reducible exact LeO.refl _)
      | (with_reducible exact LeO.none _)
      | (with_reducible refine LeO.ite ?_ ?_)
      | (with_reducible refine LeO.bind ?_ (fun _ => ?_))
      | exact ih0 _ _ _
      | exact ih1 _ _ _ _
      | exact ih2 _ _ _ _ _ _ _ _
      | exact ih3 _ _ _ _ _ _ _ _ _ _ _ _
      | exact ih4 _ _ _ _ _ _ _ _ _ _ _ _ _ _ _ _
      | exact impl_kidsThere.mono _ _
      | exact LeO.none _
      | refine LeO.ite ?_ ?_
      | refine LeO.bind ?_ (fun _ => ?_)
set_option maxHeartbeats 8000000 in
set_option maxRecDepth 100000 in
theorem impl_CountForest.calls (k : Nat) (A0_0 : Option Addr) (c0_0 : Nat) (l0_0 : List (S118)) (a1 : Int) (r : Int) (w : World) (hr0_0 : Kd.C k118 w A0_0 l0_0.length l0_0) (hc0_0 : l0_0.length ≤ c0_0) (h : impl_CountForest.f k l0_0 a1 = some r) :
    Calls Try.prog 35 #[.agg #[.slice A0_0 l0_0.length c0_0], .int .i64 a1] w fun e w' => e = .returned (.int .i64 r) ∧ Below w.heap.size w w' := by
  have hu41 := Try.underlying41
  have hu118 := Try.underlying118
  have hu131 := Try.underlying131
  have HR0_0 := Aside0.mk hr0_0
  have HC0_0 := Aside0.mk hc0_0
  clear hr0_0 hc0_0
  have HB := Aside0.mk (Below.refl w.heap.size w)
  have H : (if (l0_0.length : Int) = 0 then (impl_CountForest.j0 k a1 true l0_0) else ((impl_kidsThere.f k l0_0).bind fun t213 => (if t213 = true then (impl_CountForest.j0 k a1 (decide (a1 < 1)) l0_0) else (impl_CountForest.j0 k a1 true l0_0)))) = some r := h
  clear h
  have HC3 := Aside0.mk H
  clear H
  go_enter Try.func35, Try.ntmps35
  go_upto_region 1 with (first | ((with_reducible refine gate_dst (N := 2) rfl ?_); refine box_event ?hg (N := 2) ?hd (cs := #[.slice A0_0 l0_0.length c0_0]) (t := 41) ?hr ?_; (case hd => rfl); (case hg => rfl); (case hr => first | (go_simp; done) | (go_simp; rfl)); intro gb212 hg w4 hbox hb; have n0_ := Aside0.mk (below_step (by repeat (first | (with_reducible first | exact HB.out | apply below_alloc | apply pw_below_drewN | apply below_drew1) | exact HB.out)) hb); have n1_ := Aside0.mk (hbox); have n2_ := Aside0.mk ((by rw [hg]; exact (below_size (by repeat (first | (with_reducible first | exact HB.out | apply below_alloc | apply pw_below_drewN | apply below_drew1) | exact HB.out))) : w.heap.size ≤ gb212)); have n3_ := Aside0.mk ((by rw [hg]; exact (below_size (by repeat (first | (with_reducible first | exact HB.out | apply below_alloc | apply pw_below_drewN | apply below_drew1) | exact HB.out))) : w.heap.size ≤ gb212)); clear HB; have HB := n0_; have BK212 := n1_; have GW212 := n2_; have GE212 := n3_; clear n0_ n1_ n2_ n3_; clear hb hbox hg))
  (try simp only [Act.put, List.setIfInBounds_toArray, List.set_cons_zero, List.set_cons_succ])
  go_cut [27] (fun v27 wc => ∃ (kq : Nat) (x27_2 : Bool), v27 = .bool x27_2 ∧ Aside0 (impl_CountForest.j0 kq a1 x27_2 l0_0 = some r) ∧ Aside0 (kq ≤ k) ∧ Aside0 (wc.heap[gb212]? = some (.cells #[(.slice A0_0 l0_0.length c0_0)] 41 (0, 0))) ∧ Aside0 (Below w.heap.size w wc))
  case first =>
    have H := HC3.out
    clear HC3
    by_cases c5 : (l0_0.length : Int) = 0
    · rw [if_pos c5] at H
      have c5b0 : ((l0_0.length : Int) == 0) = true := beq_iff_eq.mpr c5
      have c5b1 : ((l0_0.length : Int) != 0) = false := bne_eq_false_iff_eq.mpr c5
      clear c5
      (first | rw [c5b0] | (simp only [i64_w, i32_w]; rw [c5b0]) | skip)
      have H' := Aside0.mk H
      clear H
      have hcz6_0 : w4.cell? ⟨gb212, 0, none⟩ = some (.slice A0_0 l0_0.length c0_0) := (blk_cell BK212.out 0).trans rfl
      have hfz6_0 := blk_frozen BK212.out 0
      go_wp2
      go_meet
      case rel => exact ⟨_, (true), (by first | rfl | (simp; done) | (simp [*]; done) | (simp [isE0, isE1]; done)), H', ⟨by first | omega | exact Nat.le_refl _⟩, ⟨by (with_reducible repeat (first | refine blk_drewN ?_ _ | refine blk_drew ?_ | refine blk_alloc ?_ _)); exact BK212.out⟩, ⟨by repeat (first | (with_reducible first | exact HB.out | apply below_alloc | apply pw_below_drewN | apply below_drew1 | refine below_set ?_ GE212.out) | exact HB.out)⟩⟩
    · rw [if_neg c5] at H
      have c5b0 : ((l0_0.length : Int) == 0) = false := beq_eq_false_iff_ne.mpr c5
      have c5b1 : ((l0_0.length : Int) != 0) = true := bne_iff_ne.mpr c5
      have c5b2 : ¬ (l0_0 = []) := fun h_ => c5 (by rw [h_]; rfl)
      (first | rw [c5b0] | (simp only [i64_w, i32_w]; rw [c5b0]) | skip)
      replace H := Option.bind_eq_some_iff.mp H
      obtain ⟨t213, A70, H⟩ := H
      replace H : (if t213 = true then (impl_CountForest.j0 k a1 (decide (a1 < 1)) l0_0) else (impl_CountForest.j0 k a1 true l0_0)) = some r := H
      have A7 := Aside0.mk A70
      clear A70
      by_cases c8 : t213 = true
      · subst c8
        have H1 : (impl_CountForest.j0 k a1 (decide (a1 < 1)) l0_0) = some r := by rw [if_pos rfl] at H; exact H
        clear H
        have H := H1
        clear H1
        have H' := Aside0.mk H
        clear H
        have hcz9_0 : w4.cell? ⟨gb212, 0, none⟩ = some (.slice A0_0 l0_0.length c0_0) := (blk_cell BK212.out 0).trans rfl
        have hfz9_0 := blk_frozen BK212.out 0
        go_wp2_with (first | (go_at_call 91; (with_reducible refine (impl_kidsThere.calls k _ _ l0_0 true _ ?side1 ?side2 A7.out).mono ?_); (case side1 => repeat (first | exact (Kd.C_below HR0_0.out HB.out) | (with_reducible refine Kd.C_alloc ?_ _) | (with_reducible refine Kd.C_drewN ?_ _) | (with_reducible refine Kd.C_drew ?_))); (case side2 => exact HC0_0.out); rintro e w10 ⟨rfl, hb⟩; have n0_ := Aside0.mk (blk_below (g := gb212) (o := .cells #[.slice A0_0 l0_0.length c0_0] 41 (0, 0)) (by (with_reducible repeat (first | refine blk_drewN ?_ _ | refine blk_drew ?_ | refine blk_alloc ?_ _)); exact BK212.out) hb); have n1_ := Aside0.mk (below_step (by repeat (first | (with_reducible first | exact HB.out | apply below_alloc | apply pw_below_drewN | apply below_drew1 | refine below_set ?_ GE212.out) | exact HB.out)) hb); clear BK212; clear HB; have BK212 := n0_; have HB := n1_; clear n0_ n1_; (try clear hb); (try clear hb2); (try clear hk); (try clear hi)))
        go_meet
        case rel => exact ⟨_, (decide (a1 < 1)), (by first | rfl | (simp; done) | (simp [*]; done) | (simp [isE0, isE1]; done)), H', ⟨by first | omega | exact Nat.le_refl _⟩, ⟨by (with_reducible repeat (first | refine blk_drewN ?_ _ | refine blk_drew ?_ | refine blk_alloc ?_ _)); exact BK212.out⟩, ⟨by repeat (first | (with_reducible first | exact HB.out | apply below_alloc | apply pw_below_drewN | apply below_drew1 | refine below_set ?_ GE212.out) | exact HB.out)⟩⟩
      · replace c8 := Bool.eq_false_iff.mpr c8
        subst c8
        have H1 : (impl_CountForest.j0 k a1 true l0_0) = some r := by rw [if_neg (show ¬ (false = true) by decide)] at H; exact H
        clear H
        have H := H1
        clear H1
        have H' := Aside0.mk H
        clear H
        have hcz11_0 : w4.cell? ⟨gb212, 0, none⟩ = some (.slice A0_0 l0_0.length c0_0) := (blk_cell BK212.out 0).trans rfl
        have hfz11_0 := blk_frozen BK212.out 0
        go_wp2_with (first | (go_at_call 91; (with_reducible refine (impl_kidsThere.calls k _ _ l0_0 false _ ?side1 ?side2 A7.out).mono ?_); (case side1 => repeat (first | exact (Kd.C_below HR0_0.out HB.out) | (with_reducible refine Kd.C_alloc ?_ _) | (with_reducible refine Kd.C_drewN ?_ _) | (with_reducible refine Kd.C_drew ?_))); (case side2 => exact HC0_0.out); rintro e w12 ⟨rfl, hb⟩; have n0_ := Aside0.mk (blk_below (g := gb212) (o := .cells #[.slice A0_0 l0_0.length c0_0] 41 (0, 0)) (by (with_reducible repeat (first | refine blk_drewN ?_ _ | refine blk_drew ?_ | refine blk_alloc ?_ _)); exact BK212.out) hb); have n1_ := Aside0.mk (below_step (by repeat (first | (with_reducible first | exact HB.out | apply below_alloc | apply pw_below_drewN | apply below_drew1 | refine below_set ?_ GE212.out) | exact HB.out)) hb); clear BK212; clear HB; have BK212 := n0_; have HB := n1_; clear n0_ n1_; (try clear hb); (try clear hb2); (try clear hk); (try clear hi)))
        go_meet
        case rel => exact ⟨_, (true), (by first | rfl | (simp; done) | (simp [*]; done) | (simp [isE0, isE1]; done)), H', ⟨by first | omega | exact Nat.le_refl _⟩, ⟨by (with_reducible repeat (first | refine blk_drewN ?_ _ | refine blk_drew ?_ | refine blk_alloc ?_ _)); exact BK212.out⟩, ⟨by repeat (first | (with_reducible first | exact HB.out | apply below_alloc | apply pw_below_drewN | apply below_drew1 | refine below_set ?_ GE212.out) | exact HB.out)⟩⟩
  case rest =>
    clear HC3
    try clear p2
    try clear c3
    try clear c5
    try clear c5b0
    try clear c5b1
    try clear c5b2
    try clear c8
    try clear hcz11_0
    try clear hcz6_0
    try clear hcz9_0
    try clear hfz11_0
    try clear hfz6_0
    try clear hfz9_0
    obtain ⟨kq, x27_2, rfl, HA, HJ2, BK212, HB⟩ := hcut
    cases kq with
    | zero => exact absurd HA.out (by simp [impl_CountForest.j0])
    | succ kj2 =>
      have H := HA.out
      clear HA
      simp only [impl_CountForest.j0] at H
      by_cases c13 : x27_2 = true
      · subst c13
        have H1 : (some 0) = some r := by rw [if_pos rfl] at H; exact H
        clear H
        have H := H1
        clear H1
        obtain rfl := Option.some.inj H
        go_wp2
        go_ret
        exact ⟨by first | rfl | (simp [errW_none, errW_some] <;> rfl) | (simp [*, errW_none, errW_some] <;> rfl), by repeat (first | (with_reducible first | exact HB.out | apply below_alloc | apply pw_below_drewN | apply below_drew1 | refine below_set ?_ GE212.out) | exact HB.out)⟩
      · replace c13 := Bool.eq_false_iff.mpr c13
        subst c13
        have H1 : (if 0 ≤ (l0_0.length : Int) then (if ((l0_0.length : Int) : Int).toNat ≤ 35184372088832 then (impl_CountForest.l0 kj2 (List.replicate ((l0_0.length : Int) : Int).toNat 0) (mn a1 8) 0 l0_0) else (none)) else (none)) = some r := by rw [if_neg (show ¬ (false = true) by decide)] at H; exact H
        clear H
        have H := H1
        clear H1
        by_cases c14 : 0 ≤ (l0_0.length : Int)
        · rw [if_pos c14] at H
          have c14b0 := eq_true c14
          have c14b1 : decide (0 ≤ (l0_0.length : Int)) = true := decide_eq_true c14
          clear c14
          by_cases c15 : ((l0_0.length : Int) : Int).toNat ≤ 35184372088832
          · rw [if_pos c15] at H
            have c15b0 := eq_true c15
            have c15b1 : decide (((l0_0.length : Int) : Int).toNat ≤ 35184372088832) = true := decide_eq_true c15
            clear c15
            obtain ⟨y214, hy214⟩ : ∃ y_ : List Int, y_ = (List.replicate ((l0_0.length : Int) : Int).toNat 0) := ⟨_, rfl⟩
            replace H : (impl_CountForest.l0 kj2 y214 (mn a1 8) 0 l0_0) = some r := by first | (rw [hy214]; with_reducible exact H) | (have H2_ := (Option.bind_some _ _).symm.trans H; rw [hy214]; with_reducible exact H2_) | (have H2_ := (Option.bind_some _ _).symm.trans H; with_reducible exact H2_) | with_reducible exact H | (rw [hy214]; exact H) | exact H
            have Ny214 := Aside0.mk hy214
            clear hy214
            obtain ⟨ji16, hji16⟩ : ∃ j_ : Int, (mn a1 8) = j_ := ⟨_, rfl⟩
            replace H : (impl_CountForest.l0 kj2 y214 ji16 0 l0_0) = some r := by first | (rw [hji16] at H; exact H) | (simp only [hji16] at H ⊢; exact H)
            have hji16_ : (if 8 < a1 then 8 else a1) = ji16 := hji16
            have H' := Aside0.mk H
            clear H
            have hcz17_0 : wc.cell? ⟨gb212, 0, none⟩ = some (.slice A0_0 l0_0.length c0_0) := (blk_cell BK212.out 0).trans rfl
            have hfz17_0 := blk_frozen BK212.out 0
            go_wp2_with (first | ((with_reducible refine gate_dst (N := 31) rfl ?_); refine Kd.R_make (Kd.int .i64) _ 3 rfl (N := 31) rfl 30 _ _ rfl (l0_0.length : Int) rfl rfl Try.underlying30 (.int .i64 0) 8 info3 rfl (by decide) (by omega) 0 (ok := fun _ => True) (okp := fun _ => True) rfl (fun _ hk => hk) trivial (of_decide_eq_true (by first | (with_reducible assumption) | assumption)) (Nat.le_trans (Nat.mul_le_mul_right _ (of_decide_eq_true (by first | (with_reducible assumption) | assumption) : (l0_0.length : Int).toNat ≤ 35184372088832)) (by omega)) (Below.refl _ _) (Nat.le_refl _) ?_; intro v215 w18 ho19 hb hg_ hnew_; clear hg_ hnew_; (first | rw [← Ny214.out] at ho19 | (simp only [Int.reduceToNat] at ho19; rw [← Ny214.out] at ho19)); have n0_ := Aside0.mk (Kd.R_lower ho19 (below_size (by repeat (first | (with_reducible first | exact HB.out | apply below_alloc | apply pw_below_drewN | apply below_drew1 | refine below_set ?_ GE212.out) | exact HB.out)))); have n1_ := Aside0.mk (blk_below (g := gb212) (o := .cells #[.slice A0_0 l0_0.length c0_0] 41 (0, 0)) (by (with_reducible repeat (first | refine blk_drewN ?_ _ | refine blk_drew ?_ | refine blk_alloc ?_ _)); exact BK212.out) hb); have n2_ := Aside0.mk (below_step (by repeat (first | (with_reducible first | exact HB.out | apply below_alloc | apply pw_below_drewN | apply below_drew1 | refine below_set ?_ GE212.out) | exact HB.out)) hb); clear BK212; clear HB; have HO216 := n0_; have BK212 := n1_; have HB := n2_; clear n0_ n1_ n2_; clear hb ho19))
            go_loopg [5, 34] kj2 (fun kq v5 v34 w' => ∃ (x5_2 : List Int) (x34_2 : Int), v34 = .int .i64 x34_2 ∧ Aside0 (impl_CountForest.l0 kq x5_2 ji16 x34_2 l0_0 = some r) ∧ Aside0 (kq ≤ kj2) ∧ Aside0 (Kd.R (Kd.int .i64) 3 w' w.heap.size (fun _ => True) v5 x5_2) ∧ Aside0 (w'.heap[gb212]? = some (.cells #[(.slice A0_0 l0_0.length c0_0)] 41 (0, 0))) ∧ Aside0 (Below w.heap.size w w'))
            case atStart => exact ⟨(y214), (0), (by first | rfl | (simp; done) | (simp [*]; done) | (simp [isE0, isE1]; done)), H', ⟨Nat.le_refl _⟩, ⟨by (with_reducible repeat (first | apply Kd.R_alloc | apply Kd.R_drewN | apply Kd.R_drew)); exact HO216.out⟩, ⟨by (with_reducible repeat (first | refine blk_drewN ?_ _ | refine blk_drew ?_ | refine blk_alloc ?_ _)); exact BK212.out⟩, ⟨by repeat (first | (with_reducible first | exact HB.out | apply below_alloc | apply pw_below_drewN | apply below_drew1 | refine below_set ?_ GE212.out) | exact HB.out)⟩⟩
            case round =>
              clear H'
              try clear c1
              try clear p2
              try clear c3
              try clear c5
              try clear c5b0
              try clear c5b1
              try clear c5b2
              try clear c8
              try clear c13
              try clear c14
              try clear c14b0
              try clear c14b1
              try clear c15
              try clear c15b0
              try clear c15b1
              try clear hcz11_0
              try clear hcz17_0
              try clear hcz6_0
              try clear hcz9_0
              try clear hfz11_0
              try clear hfz17_0
              try clear hfz6_0
              try clear hfz9_0
              try clear p2
              obtain ⟨x5_2, x34_2, rfl, HA, HK2, HO_5, BK212, HB⟩ := hrel
              cases gk with
              | zero => exact absurd HA.out (by simp [impl_CountForest.l0])
              | succ k2 =>
                have H := HA.out
                clear HA
                simp only [impl_CountForest.l0] at H
                by_cases c20 : x34_2 < ji16
                · rw [if_pos c20] at H
                  have c20b0 : decide (x34_2 < ji16) = true := decide_eq_true c20
                  clear c20
                  obtain ⟨y218, hy218⟩ : ∃ y_ : List Int, y_ = (([] : List Int)) := ⟨_, rfl⟩
                  replace H : (impl_CountForest.l1 k2 x5_2 y218 ji16 x34_2 l0_0 (l0_0.length : Int) 0 l0_0) = some r := by first | (rw [hy218]; with_reducible exact H) | (have H2_ := (Option.bind_some _ _).symm.trans H; rw [hy218]; with_reducible exact H2_) | (have H2_ := (Option.bind_some _ _).symm.trans H; with_reducible exact H2_) | with_reducible exact H | (rw [hy218]; exact H) | exact H
                  have Ny218 := Aside0.mk hy218
                  clear hy218
                  have H' := Aside0.mk H
                  clear H
                  go_wp2_with (first | ((with_reducible refine gate_dst (N := 36) rfl ?_); refine Kd.R_lit (Kd.int .i64) _ 3 ?hg (N := 36) ?hd (xs := ([] : List Int)) (inner := []) (ok := fun _ => True) (okp := fun _ => True) ?hr ?hp (fun _ hk => hk) trivial (Below.refl _ _) (Nat.le_refl _) (by simp) ?_; (case hd => rfl); (case hg => rfl); (case hr => first | (go_simp; done) | (go_simp; rfl)); (case hp => exact (Reps.none _ _)); intro v219 w21 ho22 hb hg_ hnew_; clear hg_ hnew_; (first | rw [← Ny218.out] at ho22 | (simp only [Int.reduceToNat] at ho22; rw [← Ny218.out] at ho22)); have n0_ := Aside0.mk (Kd.R_elder' (by (with_reducible repeat (first | apply Kd.R_alloc | apply Kd.R_drewN | apply Kd.R_drew)); exact HO_5.out) (Kd.R_base ho22) hb); have n1_ := Aside0.mk (Kd.R_lower (Kd.R_new' ho22 (Kd.R_lt (by (with_reducible repeat (first | apply Kd.R_alloc | apply Kd.R_drewN | apply Kd.R_drew)); exact HO_5.out))) (below_size (by repeat (first | (with_reducible first | exact HB.out | apply below_alloc | apply pw_below_drewN | apply below_drew1 | refine below_set ?_ GE212.out) | exact HB.out)))); have n2_ := Aside0.mk (blk_below (g := gb212) (o := .cells #[.slice A0_0 l0_0.length c0_0] 41 (0, 0)) (by (with_reducible repeat (first | refine blk_drewN ?_ _ | refine blk_drew ?_ | refine blk_alloc ?_ _)); exact BK212.out) hb); have n3_ := Aside0.mk (below_step (by repeat (first | (with_reducible first | exact HB.out | apply below_alloc | apply pw_below_drewN | apply below_drew1 | refine below_set ?_ GE212.out) | exact HB.out)) hb); clear HO_5; clear BK212; clear HB; have HO_5 := n0_; have HO220 := n1_; have BK212 := n2_; have HB := n3_; clear n0_ n1_ n2_ n3_; clear hb ho22; have hcz23_0 : w21.cell? ⟨gb212, 0, none⟩ = some (.slice A0_0 l0_0.length c0_0) := (blk_cell BK212.out 0).trans rfl; have hfz23_0 := blk_frozen BK212.out 0))
                  go_loopg [6, 40] k2 (fun kq v6 v40 w' => ∃ (x6_3 : List Int) (x40_3 : Int), v40 = .int .i64 x40_3 ∧ Aside0 (impl_CountForest.l1 kq x5_2 x6_3 ji16 x34_2 l0_0 (l0_0.length : Int) x40_3 l0_0 = some r) ∧ Aside0 (kq ≤ k2) ∧ Aside0 (Kd.R (Kd.int .i64) 3 w' w.heap.size (fun k_ => some k_ ≠ (v6 : Value).ownBlock) u5 x5_2) ∧ Aside0 (Kd.R (Kd.int .i64) 3 w' w.heap.size (fun k_ => some k_ ≠ (u5 : Value).ownBlock) v6 x6_3) ∧ Aside0 (w'.heap[gb212]? = some (.cells #[(.slice A0_0 l0_0.length c0_0)] 41 (0, 0))) ∧ Aside0 (Below w.heap.size w w'))
                  case atStart => exact ⟨(y218), (0), (by first | rfl | (simp; done) | (simp [*]; done) | (simp [isE0, isE1]; done)), H', ⟨Nat.le_refl _⟩, ⟨by (with_reducible repeat (first | apply Kd.R_alloc | apply Kd.R_drewN | apply Kd.R_drew)); exact Kd.R_mono HO_5.out (fun _ hk => hk.2)⟩, ⟨by (with_reducible repeat (first | apply Kd.R_alloc | apply Kd.R_drewN | apply Kd.R_drew)); exact Kd.R_mono HO220.out (fun _ hk => hk.2)⟩, ⟨by (with_reducible repeat (first | refine blk_drewN ?_ _ | refine blk_drew ?_ | refine blk_alloc ?_ _)); exact BK212.out⟩, ⟨by repeat (first | (with_reducible first | exact HB.out | apply below_alloc | apply pw_below_drewN | apply below_drew1 | refine below_set ?_ GE212.out) | exact HB.out)⟩⟩
                  case round =>
                    clear H'
                    try clear c1
                    try clear c2
                    try clear p2
                    try clear c3
                    try clear c5
                    try clear c5b0
                    try clear c5b1
                    try clear c5b2
                    try clear c8
                    try clear c13
                    try clear c14
                    try clear c14b0
                    try clear c14b1
                    try clear c15
                    try clear c15b0
                    try clear c15b1
                    try clear c20
                    try clear c20b0
                    try clear hcz11_0
                    try clear hcz17_0
                    try clear hcz23_0
                    try clear hcz6_0
                    try clear hcz9_0
                    try clear hfz11_0
                    try clear hfz17_0
                    try clear hfz23_0
                    try clear hfz6_0
                    try clear hfz9_0
                    try clear p2
                    obtain ⟨x6_3, x40_3, rfl, HA, HK3, HO_5, HO_6, BK212, HB⟩ := hrel
                    cases gk with
                    | zero => exact absurd HA.out (by simp [impl_CountForest.l1])
                    | succ k3 =>
                      have H := HA.out
                      clear HA
                      simp only [impl_CountForest.l1] at H
                      by_cases c24 : x40_3 < (l0_0.length : Int)
                      · rw [if_pos c24] at H
                        have c24b0 : decide (x40_3 < (l0_0.length : Int)) = true := decide_eq_true c24
                        clear c24
                        by_cases c25 : 0 ≤ x40_3
                        · rw [if_pos c25] at H
                          have c25b0 : decide (0 ≤ x40_3) = true := decide_eq_true c25
                          clear c25
                          by_cases c26 : x40_3 < (l0_0.length : Int)
                          · rw [if_pos c26] at H
                            have c26b0 : decide (x40_3 < (l0_0.length : Int)) = true := decide_eq_true c26
                            clear c26
                            have H' := Aside0.mk H
                            clear H
                            have p221 : 0 ≤ (x40_3 : Int) := of_decide_eq_true (by first | (with_reducible assumption) | assumption)
                            have q221 : x40_3 < (l0_0.length : Int) := of_decide_eq_true (by first | (with_reducible assumption) | assumption)
                            obtain ⟨ad221, A221_1, c221_1, A221_4, c221_4, e221, hx221_0, hx221_1, hx221_2, hx221_3, hx221_4, hl221_1, hi221_1, hl221_4, hi221_4⟩ := at_T118 HR0_0.out x40_3 p221 q221
                            cases e221
                            replace hx221_0 := (HB.out.cell (World.block_lt_of_cell? w _ hx221_0)).trans hx221_0
                            replace hx221_1 := (HB.out.cell (World.block_lt_of_cell? w _ hx221_1)).trans hx221_1
                            replace hx221_2 := (HB.out.cell (World.block_lt_of_cell? w _ hx221_2)).trans hx221_2
                            replace hx221_3 := (HB.out.cell (World.block_lt_of_cell? w _ hx221_3)).trans hx221_3
                            replace hx221_4 := (HB.out.cell (World.block_lt_of_cell? w _ hx221_4)).trans hx221_4
                            have HR221_1 := Aside0.mk hi221_1
                            have HC221_1 := Aside0.mk hl221_1
                            clear hi221_1 hl221_1
                            have HR221_4 := Aside0.mk hi221_4
                            have HC221_4 := Aside0.mk hl221_4
                            clear hi221_4 hl221_4
                            replace p221 := eq_true p221
                            replace q221 := eq_true q221
                            go_wp2_with (first | ((with_reducible refine gate_dst (N := 8) rfl ?_); refine box_event ?hg (N := 8) ?hd (cs := #[.int .i64 0, .slice none 0 0, .int .i64 0, .int .i64 0, .slice none 0 0]) (t := 118) ?hr ?_; (case hd => rfl); (case hg => rfl); (case hr => first | (go_simp; done) | (go_simp; rfl)); intro gb222 hg w27 hbox hb; have n0_ := Aside0.mk (Kd.R_below (by (with_reducible repeat (first | apply Kd.R_alloc | apply Kd.R_drewN | apply Kd.R_drew)); exact HO_5.out) hb); have n1_ := Aside0.mk (Kd.R_below (by (with_reducible repeat (first | apply Kd.R_alloc | apply Kd.R_drewN | apply Kd.R_drew)); exact HO_6.out) hb); have n2_ := Aside0.mk (blk_below (g := gb212) (o := .cells #[.slice (some ad221) l0_0.length c0_0] 41 (0, 0)) (by (with_reducible repeat (first | refine blk_drewN ?_ _ | refine blk_drew ?_ | refine blk_alloc ?_ _)); exact BK212.out) hb); have n3_ := Aside0.mk (below_step (by repeat (first | (with_reducible first | exact HB.out | apply below_alloc | apply pw_below_drewN | apply below_drew1 | refine below_set ?_ GE212.out) | exact HB.out)) hb); have n4_ := Aside0.mk (hbox); have n5_ := Aside0.mk ((by rw [hg]; exact (below_size (by repeat (first | (with_reducible first | exact HB.out | apply below_alloc | apply pw_below_drewN | apply below_drew1 | refine below_set ?_ GE212.out) | exact HB.out))) : w.heap.size ≤ gb222)); have n6_ := Aside0.mk ((by rw [hg]; exact (below_size (by repeat (first | (with_reducible first | exact HB.out | apply below_alloc | apply pw_below_drewN | apply below_drew1 | refine below_set ?_ GE212.out) | exact HB.out))) : w.heap.size ≤ gb222)); have n7_ := Aside0.mk ((by rw [hg]; exact Nat.ne_of_lt (blk_lt (g := gb212) (o := .cells #[.slice (some ad221) l0_0.length c0_0] 41 (0, 0)) (by (with_reducible repeat (first | refine blk_drewN ?_ _ | refine blk_drew ?_ | refine blk_alloc ?_ _)); exact BK212.out)) : gb212 ≠ gb222)); have n8_ := Aside0.mk ((by rw [hg]; exact Nat.ne_of_gt (blk_lt (g := gb212) (o := .cells #[.slice (some ad221) l0_0.length c0_0] 41 (0, 0)) (by (with_reducible repeat (first | refine blk_drewN ?_ _ | refine blk_drew ?_ | refine blk_alloc ?_ _)); exact BK212.out)) : gb222 ≠ gb212)); clear HO_5; clear HO_6; clear BK212; clear HB; have HO_5 := n0_; have HO_6 := n1_; have BK212 := n2_; have HB := n3_; have BK222 := n4_; have GW222 := n5_; have GE222 := n6_; have NB212_222 := n7_; have NB222_212 := n8_; clear n0_ n1_ n2_ n3_ n4_ n5_ n6_ n7_ n8_; clear hb hbox hg; have hnb28 := NB222_212.out; have hnc28 := NB212_222.out; have hcz29_0 : w27.cell? ⟨gb222, 0, none⟩ = some (.int .i64 0) := (blk_cell BK222.out 0).trans rfl; have hcz29_1 : w27.cell? ⟨gb222, 1, none⟩ = some (.slice none 0 0) := (blk_cell BK222.out 1).trans rfl; have hcz29_2 : w27.cell? ⟨gb222, 2, none⟩ = some (.int .i64 0) := (blk_cell BK222.out 2).trans rfl; have hcz29_3 : w27.cell? ⟨gb222, 3, none⟩ = some (.int .i64 0) := (blk_cell BK222.out 3).trans rfl; have hcz29_4 : w27.cell? ⟨gb222, 4, none⟩ = some (.slice none 0 0) := (blk_cell BK222.out 4).trans rfl; have hfz29_0 := blk_frozen BK222.out 0; have hfz29_1 := blk_frozen BK222.out 1; have hfz29_2 := blk_frozen BK222.out 2; have hfz29_3 := blk_frozen BK222.out 3; have hfz29_4 := blk_frozen BK222.out 4))
                            go_loopg [9, 47] k3 (fun kq v9 v47 w' => ∃ (x9_4 : Int) (x47_4 : Int), v9 = .int .i64 x9_4 ∧ v47 = .int .i64 x47_4 ∧ Aside0 (impl_CountForest.l2 kq x5_2 x6_3 x9_4 ji16 x34_2 l0_0 (l0_0.length : Int) x40_3 ((rd_T118 l0_0 x40_3).f4) (((rd_T118 l0_0 x40_3).f4).length : Int) x47_4 l0_0 = some r) ∧ Aside0 (kq ≤ k3) ∧ Aside0 (Kd.R (Kd.int .i64) 3 w' w.heap.size (fun k_ => some k_ ≠ (u6 : Value).ownBlock) u5 x5_2) ∧ Aside0 (Kd.R (Kd.int .i64) 3 w' w.heap.size (fun k_ => some k_ ≠ (u5 : Value).ownBlock) u6 x6_3) ∧ Aside0 (w'.heap[gb212]? = some (.cells #[(.slice (some ad221) l0_0.length c0_0)] 41 (0, 0))) ∧ Aside0 (w'.heap[gb222]? = some (.cells #[.int .i64 ((rd_T118 l0_0 x40_3).f0), (.slice A221_1 ((rd_T118 l0_0 x40_3).f1).length c221_1), .int .i64 ((rd_T118 l0_0 x40_3).f2), .int .i64 ((rd_T118 l0_0 x40_3).f3), (.slice A221_4 ((rd_T118 l0_0 x40_3).f4).length c221_4)] 118 (0, 0))) ∧ Aside0 (Below w.heap.size w w'))
                            case atStart => exact ⟨(0), (0), (by first | rfl | (simp; done) | (simp [*]; done) | (simp [isE0, isE1]; done)), (by first | rfl | (simp; done) | (simp [*]; done) | (simp [isE0, isE1]; done)), H', ⟨Nat.le_refl _⟩, ⟨by (with_reducible repeat (first | apply Kd.R_alloc | apply Kd.R_drewN | apply Kd.R_drew)); exact Kd.R_mono (Kd.R_far (p := ⟨gb222, 4, none⟩) (Kd.R_far (p := ⟨gb222, 3, none⟩) (Kd.R_far (p := ⟨gb222, 2, none⟩) (Kd.R_far (p := ⟨gb222, 1, none⟩) (Kd.R_far (p := ⟨gb222, 0, none⟩) (Kd.R_types HO_5.out BK222.out (by decide)) (fun _ hk => hk.2) (.int .i64 ((rd_T118 l0_0 x40_3).f0))) (fun _ hk => hk.2) (.slice A221_1 ((rd_T118 l0_0 x40_3).f1).length c221_1)) (fun _ hk => hk.2) (.int .i64 ((rd_T118 l0_0 x40_3).f2))) (fun _ hk => hk.2) (.int .i64 ((rd_T118 l0_0 x40_3).f3))) (fun _ hk => hk.2) (.slice A221_4 ((rd_T118 l0_0 x40_3).f4).length c221_4)) (fun _ hk => hk.1)⟩, ⟨by (with_reducible repeat (first | apply Kd.R_alloc | apply Kd.R_drewN | apply Kd.R_drew)); exact Kd.R_mono (Kd.R_far (p := ⟨gb222, 4, none⟩) (Kd.R_far (p := ⟨gb222, 3, none⟩) (Kd.R_far (p := ⟨gb222, 2, none⟩) (Kd.R_far (p := ⟨gb222, 1, none⟩) (Kd.R_far (p := ⟨gb222, 0, none⟩) (Kd.R_types HO_6.out BK222.out (by decide)) (fun _ hk => hk.2) (.int .i64 ((rd_T118 l0_0 x40_3).f0))) (fun _ hk => hk.2) (.slice A221_1 ((rd_T118 l0_0 x40_3).f1).length c221_1)) (fun _ hk => hk.2) (.int .i64 ((rd_T118 l0_0 x40_3).f2))) (fun _ hk => hk.2) (.int .i64 ((rd_T118 l0_0 x40_3).f3))) (fun _ hk => hk.2) (.slice A221_4 ((rd_T118 l0_0 x40_3).f4).length c221_4)) (fun _ hk => hk.1)⟩, ⟨by (with_reducible repeat (first | refine blk_drewN ?_ _ | refine blk_drew ?_ | refine blk_alloc ?_ _)); refine blk_far ?_ NB212_222.out _; (with_reducible repeat (first | refine blk_drewN ?_ _ | refine blk_drew ?_ | refine blk_alloc ?_ _)); refine blk_far ?_ NB212_222.out _; (with_reducible repeat (first | refine blk_drewN ?_ _ | refine blk_drew ?_ | refine blk_alloc ?_ _)); refine blk_far ?_ NB212_222.out _; (with_reducible repeat (first | refine blk_drewN ?_ _ | refine blk_drew ?_ | refine blk_alloc ?_ _)); refine blk_far ?_ NB212_222.out _; (with_reducible repeat (first | refine blk_drewN ?_ _ | refine blk_drew ?_ | refine blk_alloc ?_ _)); refine blk_far ?_ NB212_222.out _; (with_reducible repeat (first | refine blk_drewN ?_ _ | refine blk_drew ?_ | refine blk_alloc ?_ _)); exact BK212.out⟩, ⟨by (with_reducible repeat (first | refine blk_drewN ?_ _ | refine blk_drew ?_ | refine blk_alloc ?_ _)); refine blk_put (cs := #[.int .i64 ((rd_T118 l0_0 x40_3).f0), .slice A221_1 ((rd_T118 l0_0 x40_3).f1).length c221_1, .int .i64 ((rd_T118 l0_0 x40_3).f2), .int .i64 ((rd_T118 l0_0 x40_3).f3), .slice none 0 0]) ?_ 4 _ rfl; (with_reducible repeat (first | refine blk_drewN ?_ _ | refine blk_drew ?_ | refine blk_alloc ?_ _)); refine blk_put (cs := #[.int .i64 ((rd_T118 l0_0 x40_3).f0), .slice A221_1 ((rd_T118 l0_0 x40_3).f1).length c221_1, .int .i64 ((rd_T118 l0_0 x40_3).f2), .int .i64 0, .slice none 0 0]) ?_ 3 _ rfl; (with_reducible repeat (first | refine blk_drewN ?_ _ | refine blk_drew ?_ | refine blk_alloc ?_ _)); refine blk_put (cs := #[.int .i64 ((rd_T118 l0_0 x40_3).f0), .slice A221_1 ((rd_T118 l0_0 x40_3).f1).length c221_1, .int .i64 0, .int .i64 0, .slice none 0 0]) ?_ 2 _ rfl; (with_reducible repeat (first | refine blk_drewN ?_ _ | refine blk_drew ?_ | refine blk_alloc ?_ _)); refine blk_put (cs := #[.int .i64 ((rd_T118 l0_0 x40_3).f0), .slice none 0 0, .int .i64 0, .int .i64 0, .slice none 0 0]) ?_ 1 _ rfl; (with_reducible repeat (first | refine blk_drewN ?_ _ | refine blk_drew ?_ | refine blk_alloc ?_ _)); refine blk_put (cs := #[.int .i64 0, .slice none 0 0, .int .i64 0, .int .i64 0, .slice none 0 0]) ?_ 0 _ rfl; (with_reducible repeat (first | refine blk_drewN ?_ _ | refine blk_drew ?_ | refine blk_alloc ?_ _)); exact BK222.out⟩, ⟨by repeat (first | (with_reducible first | exact HB.out | apply below_alloc | apply pw_below_drewN | apply below_drew1 | refine below_set ?_ GE212.out | refine below_set ?_ GE222.out) | exact HB.out)⟩⟩
                            case round =>
                              clear H'
                              try clear c1
                              try clear c2
                              try clear p2
                              try clear q2
                              try clear hx2
                              try clear c3
                              try clear c5
                              try clear c5b0
                              try clear c5b1
                              try clear c5b2
                              try clear c8
                              try clear c13
                              try clear c14
                              try clear c14b0
                              try clear c14b1
                              try clear c15
                              try clear c15b0
                              try clear c15b1
                              try clear c20
                              try clear c20b0
                              try clear c22
                              try clear p22
                              try clear q22
                              try clear hx22
                              try clear c24
                              try clear c24b0
                              try clear c25
                              try clear c25b0
                              try clear c26
                              try clear c26b0
                              try clear c28
                              try clear hcz11_0
                              try clear hcz17_0
                              try clear hcz23_0
                              try clear hcz29_0
                              try clear hcz29_1
                              try clear hcz29_2
                              try clear hcz29_3
                              try clear hcz29_4
                              try clear hcz6_0
                              try clear hcz9_0
                              try clear hfz11_0
                              try clear hfz17_0
                              try clear hfz23_0
                              try clear hfz29_0
                              try clear hfz29_1
                              try clear hfz29_2
                              try clear hfz29_3
                              try clear hfz29_4
                              try clear hfz6_0
                              try clear hfz9_0
                              try clear hx221_0
                              try clear hx221_1
                              try clear hx221_2
                              try clear hx221_3
                              try clear hx221_4
                              try clear p2
                              try clear p221
                              try clear q221
                              obtain ⟨x9_4, x47_4, rfl, rfl, HA, HK4, HO_5, HO_6, BK212, BK222, HB⟩ := hrel
                              cases gk with
                              | zero => exact absurd HA.out (by simp [impl_CountForest.l2])
                              | succ k4 =>
                                have H := HA.out
                                clear HA
                                simp only [impl_CountForest.l2] at H
                                by_cases c30 : x47_4 < (((rd_T118 l0_0 x40_3).f4).length : Int)
                                · rw [if_pos c30] at H
                                  have c30b0 : decide (x47_4 < (((rd_T118 l0_0 x40_3).f4).length : Int)) = true := decide_eq_true c30
                                  clear c30
                                  by_cases c31 : 0 ≤ x47_4
                                  · rw [if_pos c31] at H
                                    have c31b0 : decide (0 ≤ x47_4) = true := decide_eq_true c31
                                    clear c31
                                    by_cases c32 : x47_4 < (((rd_T118 l0_0 x40_3).f4).length : Int)
                                    · rw [if_pos c32] at H
                                      have c32b0 : decide (x47_4 < (((rd_T118 l0_0 x40_3).f4).length : Int)) = true := decide_eq_true c32
                                      clear c32
                                      have H' := Aside0.mk H
                                      clear H
                                      have p226 : 0 ≤ (x47_4 : Int) := of_decide_eq_true (by first | (with_reducible assumption) | assumption)
                                      have q226 : x47_4 < (((rd_T118 l0_0 x40_3).f4).length : Int) := of_decide_eq_true (by first | (with_reducible assumption) | assumption)
                                      obtain ⟨ad226, A226_1, c226_1, e226, hx226_0, hx226_1, hl226_1, hi226_1⟩ := at_T131 HR221_4.out x47_4 p226 q226
                                      cases e226
                                      replace hx226_0 := (HB.out.cell (World.block_lt_of_cell? w _ hx226_0)).trans hx226_0
                                      replace hx226_1 := (HB.out.cell (World.block_lt_of_cell? w _ hx226_1)).trans hx226_1
                                      have HR226_1 := Aside0.mk hi226_1
                                      have HC226_1 := Aside0.mk hl226_1
                                      clear hi226_1 hl226_1
                                      replace p226 := eq_true p226
                                      replace q226 := eq_true q226
                                      go_wp2_with (first | ((with_reducible refine gate_dst (N := 11) rfl ?_); refine box_event ?hg (N := 11) ?hd (cs := #[.int .i64 0, .slice none 0 0]) (t := 131) ?hr ?_; (case hd => rfl); (case hg => rfl); (case hr => first | (go_simp; done) | (go_simp; rfl)); intro gb227 hg w33 hbox hb; have n0_ := Aside0.mk (Kd.R_below (by (with_reducible repeat (first | apply Kd.R_alloc | apply Kd.R_drewN | apply Kd.R_drew)); exact HO_5.out) hb); have n1_ := Aside0.mk (Kd.R_below (by (with_reducible repeat (first | apply Kd.R_alloc | apply Kd.R_drewN | apply Kd.R_drew)); exact HO_6.out) hb); have n2_ := Aside0.mk (blk_below (g := gb212) (o := .cells #[.slice (some ad221) l0_0.length c0_0] 41 (0, 0)) (by (with_reducible repeat (first | refine blk_drewN ?_ _ | refine blk_drew ?_ | refine blk_alloc ?_ _)); exact BK212.out) hb); have n3_ := Aside0.mk (blk_below (g := gb222) (o := .cells #[.int .i64 ((rd_T118 l0_0 x40_3).f0), .slice A221_1 ((rd_T118 l0_0 x40_3).f1).length c221_1, .int .i64 ((rd_T118 l0_0 x40_3).f2), .int .i64 ((rd_T118 l0_0 x40_3).f3), .slice (some ad226) ((rd_T118 l0_0 x40_3).f4).length c221_4] 118 (0, 0)) (by (with_reducible repeat (first | refine blk_drewN ?_ _ | refine blk_drew ?_ | refine blk_alloc ?_ _)); exact BK222.out) hb); have n4_ := Aside0.mk (below_step (by repeat (first | (with_reducible first | exact HB.out | apply below_alloc | apply pw_below_drewN | apply below_drew1 | refine below_set ?_ GE212.out | refine below_set ?_ GE222.out) | exact HB.out)) hb); have n5_ := Aside0.mk (hbox); have n6_ := Aside0.mk ((by rw [hg]; exact (below_size (by repeat (first | (with_reducible first | exact HB.out | apply below_alloc | apply pw_below_drewN | apply below_drew1 | refine below_set ?_ GE212.out | refine below_set ?_ GE222.out) | exact HB.out))) : w.heap.size ≤ gb227)); have n7_ := Aside0.mk ((by rw [hg]; exact (below_size (by repeat (first | (with_reducible first | exact HB.out | apply below_alloc | apply pw_below_drewN | apply below_drew1 | refine below_set ?_ GE212.out | refine below_set ?_ GE222.out) | exact HB.out))) : w.heap.size ≤ gb227)); have n8_ := Aside0.mk ((by rw [hg]; exact Nat.ne_of_lt (blk_lt (g := gb212) (o := .cells #[.slice (some ad221) l0_0.length c0_0] 41 (0, 0)) (by (with_reducible repeat (first | refine blk_drewN ?_ _ | refine blk_drew ?_ | refine blk_alloc ?_ _)); exact BK212.out)) : gb212 ≠ gb227)); have n9_ := Aside0.mk ((by rw [hg]; exact Nat.ne_of_gt (blk_lt (g := gb212) (o := .cells #[.slice (some ad221) l0_0.length c0_0] 41 (0, 0)) (by (with_reducible repeat (first | refine blk_drewN ?_ _ | refine blk_drew ?_ | refine blk_alloc ?_ _)); exact BK212.out)) : gb227 ≠ gb212)); have n10_ := Aside0.mk ((by rw [hg]; exact Nat.ne_of_lt (blk_lt (g := gb222) (o := .cells #[.int .i64 ((rd_T118 l0_0 x40_3).f0), .slice A221_1 ((rd_T118 l0_0 x40_3).f1).length c221_1, .int .i64 ((rd_T118 l0_0 x40_3).f2), .int .i64 ((rd_T118 l0_0 x40_3).f3), .slice (some ad226) ((rd_T118 l0_0 x40_3).f4).length c221_4] 118 (0, 0)) (by (with_reducible repeat (first | refine blk_drewN ?_ _ | refine blk_drew ?_ | refine blk_alloc ?_ _)); exact BK222.out)) : gb222 ≠ gb227)); have n11_ := Aside0.mk ((by rw [hg]; exact Nat.ne_of_gt (blk_lt (g := gb222) (o := .cells #[.int .i64 ((rd_T118 l0_0 x40_3).f0), .slice A221_1 ((rd_T118 l0_0 x40_3).f1).length c221_1, .int .i64 ((rd_T118 l0_0 x40_3).f2), .int .i64 ((rd_T118 l0_0 x40_3).f3), .slice (some ad226) ((rd_T118 l0_0 x40_3).f4).length c221_4] 118 (0, 0)) (by (with_reducible repeat (first | refine blk_drewN ?_ _ | refine blk_drew ?_ | refine blk_alloc ?_ _)); exact BK222.out)) : gb227 ≠ gb222)); clear HO_5; clear HO_6; clear BK212; clear BK222; clear HB; have HO_5 := n0_; have HO_6 := n1_; have BK212 := n2_; have BK222 := n3_; have HB := n4_; have BK227 := n5_; have GW227 := n6_; have GE227 := n7_; have NB212_227 := n8_; have NB227_212 := n9_; have NB222_227 := n10_; have NB227_222 := n11_; clear n0_ n1_ n2_ n3_ n4_ n5_ n6_ n7_ n8_ n9_ n10_ n11_; clear hb hbox hg; have hnb34 := NB227_212.out; have hnc34 := NB212_227.out; have hnb35 := NB227_222.out; have hnc35 := NB222_227.out; have hcz36_0 : w33.cell? ⟨gb227, 0, none⟩ = some (.int .i64 0) := (blk_cell BK227.out 0).trans rfl; have hcz36_1 : w33.cell? ⟨gb227, 1, none⟩ = some (.slice none 0 0) := (blk_cell BK227.out 1).trans rfl; have hfz36_0 := blk_frozen BK227.out 0; have hfz36_1 := blk_frozen BK227.out 1))
                                      go_loopg [12, 54] k4 (fun kq v12 v54 w' => ∃ (x12_5 : Int) (x54_5 : Int), v12 = .int .i64 x12_5 ∧ v54 = .int .i64 x54_5 ∧ Aside0 (impl_CountForest.l3 kq x5_2 x6_3 x9_4 x12_5 ji16 x34_2 l0_0 (l0_0.length : Int) x40_3 ((rd_T118 l0_0 x40_3).f4) (((rd_T118 l0_0 x40_3).f4).length : Int) x47_4 ((rd_T131 ((rd_T118 l0_0 x40_3).f4) x47_4).f1) (((rd_T131 ((rd_T118 l0_0 x40_3).f4) x47_4).f1).length : Int) x54_5 l0_0 = some r) ∧ Aside0 (kq ≤ k4) ∧ Aside0 (Kd.R (Kd.int .i64) 3 w' w.heap.size (fun k_ => some k_ ≠ (u6 : Value).ownBlock) u5 x5_2) ∧ Aside0 (Kd.R (Kd.int .i64) 3 w' w.heap.size (fun k_ => some k_ ≠ (u5 : Value).ownBlock) u6 x6_3) ∧ Aside0 (w'.heap[gb212]? = some (.cells #[(.slice (some ad221) l0_0.length c0_0)] 41 (0, 0))) ∧ Aside0 (w'.heap[gb222]? = some (.cells #[.int .i64 ((rd_T118 l0_0 x40_3).f0), (.slice A221_1 ((rd_T118 l0_0 x40_3).f1).length c221_1), .int .i64 ((rd_T118 l0_0 x40_3).f2), .int .i64 ((rd_T118 l0_0 x40_3).f3), (.slice (some ad226) ((rd_T118 l0_0 x40_3).f4).length c221_4)] 118 (0, 0))) ∧ Aside0 (w'.heap[gb227]? = some (.cells #[.int .i64 ((rd_T131 ((rd_T118 l0_0 x40_3).f4) x47_4).f0), (.slice A226_1 ((rd_T131 ((rd_T118 l0_0 x40_3).f4) x47_4).f1).length c226_1)] 131 (0, 0))) ∧ Aside0 (Below w.heap.size w w'))
                                      case atStart => exact ⟨(1), (0), (by first | rfl | (simp; done) | (simp [*]; done) | (simp [isE0, isE1]; done)), (by first | rfl | (simp; done) | (simp [*]; done) | (simp [isE0, isE1]; done)), H', ⟨Nat.le_refl _⟩, ⟨by (with_reducible repeat (first | apply Kd.R_alloc | apply Kd.R_drewN | apply Kd.R_drew)); exact Kd.R_mono (Kd.R_far (p := ⟨gb227, 1, none⟩) (Kd.R_far (p := ⟨gb227, 0, none⟩) (Kd.R_types HO_5.out BK227.out (by decide)) (fun _ hk => hk.2) (.int .i64 ((rd_T131 ((rd_T118 l0_0 x40_3).f4) x47_4).f0))) (fun _ hk => hk.2) (.slice A226_1 ((rd_T131 ((rd_T118 l0_0 x40_3).f4) x47_4).f1).length c226_1)) (fun _ hk => hk.1)⟩, ⟨by (with_reducible repeat (first | apply Kd.R_alloc | apply Kd.R_drewN | apply Kd.R_drew)); exact Kd.R_mono (Kd.R_far (p := ⟨gb227, 1, none⟩) (Kd.R_far (p := ⟨gb227, 0, none⟩) (Kd.R_types HO_6.out BK227.out (by decide)) (fun _ hk => hk.2) (.int .i64 ((rd_T131 ((rd_T118 l0_0 x40_3).f4) x47_4).f0))) (fun _ hk => hk.2) (.slice A226_1 ((rd_T131 ((rd_T118 l0_0 x40_3).f4) x47_4).f1).length c226_1)) (fun _ hk => hk.1)⟩, ⟨by (with_reducible repeat (first | refine blk_drewN ?_ _ | refine blk_drew ?_ | refine blk_alloc ?_ _)); refine blk_far ?_ NB212_227.out _; (with_reducible repeat (first | refine blk_drewN ?_ _ | refine blk_drew ?_ | refine blk_alloc ?_ _)); refine blk_far ?_ NB212_227.out _; (with_reducible repeat (first | refine blk_drewN ?_ _ | refine blk_drew ?_ | refine blk_alloc ?_ _)); exact BK212.out⟩, ⟨by (with_reducible repeat (first | refine blk_drewN ?_ _ | refine blk_drew ?_ | refine blk_alloc ?_ _)); refine blk_far ?_ NB222_227.out _; (with_reducible repeat (first | refine blk_drewN ?_ _ | refine blk_drew ?_ | refine blk_alloc ?_ _)); refine blk_far ?_ NB222_227.out _; (with_reducible repeat (first | refine blk_drewN ?_ _ | refine blk_drew ?_ | refine blk_alloc ?_ _)); exact BK222.out⟩, ⟨by (with_reducible repeat (first | refine blk_drewN ?_ _ | refine blk_drew ?_ | refine blk_alloc ?_ _)); refine blk_put (cs := #[.int .i64 ((rd_T131 ((rd_T118 l0_0 x40_3).f4) x47_4).f0), .slice none 0 0]) ?_ 1 _ rfl; (with_reducible repeat (first | refine blk_drewN ?_ _ | refine blk_drew ?_ | refine blk_alloc ?_ _)); refine blk_put (cs := #[.int .i64 0, .slice none 0 0]) ?_ 0 _ rfl; (with_reducible repeat (first | refine blk_drewN ?_ _ | refine blk_drew ?_ | refine blk_alloc ?_ _)); exact BK227.out⟩, ⟨by repeat (first | (with_reducible first | exact HB.out | apply below_alloc | apply pw_below_drewN | apply below_drew1 | refine below_set ?_ GE212.out | refine below_set ?_ GE222.out | refine below_set ?_ GE227.out) | exact HB.out)⟩⟩
                                      case round =>
                                        clear H'
                                        try clear c1
                                        try clear c2
                                        try clear p2
                                        try clear q2
                                        try clear hx2
                                        try clear c3
                                        try clear c5
                                        try clear c5b0
                                        try clear c5b1
                                        try clear c5b2
                                        try clear c8
                                        try clear c13
                                        try clear c14
                                        try clear c14b0
                                        try clear c14b1
                                        try clear c15
                                        try clear c15b0
                                        try clear c15b1
                                        try clear c20
                                        try clear c20b0
                                        try clear c22
                                        try clear p22
                                        try clear q22
                                        try clear hx22
                                        try clear c24
                                        try clear c24b0
                                        try clear c25
                                        try clear c25b0
                                        try clear c26
                                        try clear c26b0
                                        try clear c28
                                        try clear c30
                                        try clear c30b0
                                        try clear c31
                                        try clear c31b0
                                        try clear c32
                                        try clear c32b0
                                        try clear c34
                                        try clear c35
                                        try clear hcz11_0
                                        try clear hcz17_0
                                        try clear hcz23_0
                                        try clear hcz29_0
                                        try clear hcz29_1
                                        try clear hcz29_2
                                        try clear hcz29_3
                                        try clear hcz29_4
                                        try clear hcz36_0
                                        try clear hcz36_1
                                        try clear hcz6_0
                                        try clear hcz9_0
                                        try clear hfz11_0
                                        try clear hfz17_0
                                        try clear hfz23_0
                                        try clear hfz29_0
                                        try clear hfz29_1
                                        try clear hfz29_2
                                        try clear hfz29_3
                                        try clear hfz29_4
                                        try clear hfz36_0
                                        try clear hfz36_1
                                        try clear hfz6_0
                                        try clear hfz9_0
                                        try clear hx221_0
                                        try clear hx221_1
                                        try clear hx221_2
                                        try clear hx221_3
                                        try clear hx221_4
                                        try clear hx226_0
                                        try clear hx226_1
                                        try clear p2
                                        try clear p22
                                        try clear p221
                                        try clear p226
                                        try clear q2
                                        try clear q22
                                        try clear q221
                                        try clear q226
                                        obtain ⟨x12_5, x54_5, rfl, rfl, HA, HK5, HO_5, HO_6, BK212, BK222, BK227, HB⟩ := hrel
                                        cases gk with
                                        | zero => exact absurd HA.out (by simp [impl_CountForest.l3])
                                        | succ k5 =>
                                          have H := HA.out
                                          clear HA
                                          simp only [impl_CountForest.l3] at H
                                          by_cases c37 : x54_5 < (((rd_T131 ((rd_T118 l0_0 x40_3).f4) x47_4).f1).length : Int)
                                          · rw [if_pos c37] at H
                                            have c37b0 : decide (x54_5 < (((rd_T131 ((rd_T118 l0_0 x40_3).f4) x47_4).f1).length : Int)) = true := decide_eq_true c37
                                            clear c37
                                            by_cases c38 : 0 ≤ x54_5
                                            · rw [if_pos c38] at H
                                              have c38b0 : decide (0 ≤ x54_5) = true := decide_eq_true c38
                                              clear c38
                                              by_cases c39 : x54_5 < (((rd_T131 ((rd_T118 l0_0 x40_3).f4) x47_4).f1).length : Int)
                                              · rw [if_pos c39] at H
                                                have c39b0 : decide (x54_5 < (((rd_T131 ((rd_T118 l0_0 x40_3).f4) x47_4).f1).length : Int)) = true := decide_eq_true c39
                                                clear c39
                                                by_cases c40 : 0 ≤ (rd ((rd_T131 ((rd_T118 l0_0 x40_3).f4) x47_4).f1) x54_5)
                                                · rw [if_pos c40] at H
                                                  have c40b0 : decide (0 ≤ (rd ((rd_T131 ((rd_T118 l0_0 x40_3).f4) x47_4).f1) x54_5)) = true := decide_eq_true c40
                                                  clear c40
                                                  by_cases c41 : (rd ((rd_T131 ((rd_T118 l0_0 x40_3).f4) x47_4).f1) x54_5) < (x5_2.length : Int)
                                                  · rw [if_pos c41] at H
                                                    have c41b0 : decide ((rd ((rd_T131 ((rd_T118 l0_0 x40_3).f4) x47_4).f1) x54_5) < (x5_2.length : Int)) = true := decide_eq_true c41
                                                    clear c41
                                                    obtain ⟨ji42, hji42⟩ : ∃ j_ : Int, (mn (wrap64 (x12_5 * (rd x5_2 (rd ((rd_T131 ((rd_T118 l0_0 x40_3).f4) x47_4).f1) x54_5)))) 1000000) = j_ := ⟨_, rfl⟩
                                                    replace H : (impl_CountForest.l3 k5 x5_2 x6_3 x9_4 ji42 ji16 x34_2 l0_0 (l0_0.length : Int) x40_3 ((rd_T118 l0_0 x40_3).f4) (((rd_T118 l0_0 x40_3).f4).length : Int) x47_4 ((rd_T131 ((rd_T118 l0_0 x40_3).f4) x47_4).f1) (((rd_T131 ((rd_T118 l0_0 x40_3).f4) x47_4).f1).length : Int) (wrap64 (x54_5 + 1)) l0_0) = some r := by first | (rw [hji42] at H; exact H) | (simp only [hji42] at H ⊢; exact H)
                                                    have hji42_ : (if 1000000 < (wrap64 (x12_5 * (rd x5_2 (rd ((rd_T131 ((rd_T118 l0_0 x40_3).f4) x47_4).f1) x54_5)))) then 1000000 else (wrap64 (x12_5 * (rd x5_2 (rd ((rd_T131 ((rd_T118 l0_0 x40_3).f4) x47_4).f1) x54_5))))) = ji42 := hji42
                                                    have H' := Aside0.mk H
                                                    clear H
                                                    have p228 : 0 ≤ (x54_5 : Int) := of_decide_eq_true (by first | (with_reducible assumption) | assumption)
                                                    have q228 : x54_5 < (((rd_T131 ((rd_T118 l0_0 x40_3).f4) x47_4).f1).length : Int) := of_decide_eq_true (by first | (with_reducible assumption) | assumption)
                                                    obtain ⟨ad228, e228, hx228_0⟩ := Kd.at_int HR226_1.out x54_5 p228 q228
                                                    cases e228
                                                    replace hx228_0 := (HB.out.cell (World.block_lt_of_cell? w _ hx228_0)).trans hx228_0
                                                    replace p228 := eq_true p228
                                                    replace q228 := eq_true q228
                                                    obtain ⟨Ao43, co43, eo43⟩ := Kd.R_slice HO_5.out
                                                    subst eo43
                                                    have p229 : 0 ≤ ((rd ((rd_T131 ((rd_T118 l0_0 x40_3).f4) x47_4).f1) x54_5) : Int) := of_decide_eq_true (by first | (with_reducible assumption) | assumption)
                                                    have q229 : (rd ((rd_T131 ((rd_T118 l0_0 x40_3).f4) x47_4).f1) x54_5) < (x5_2.length : Int) := of_decide_eq_true (by first | (with_reducible assumption) | assumption)
                                                    obtain ⟨ad229, e229, hx229_0⟩ := Kd.at_int (Kd.R_reads' HO_5.out).2.2 (rd ((rd_T131 ((rd_T118 l0_0 x40_3).f4) x47_4).f1) x54_5) p229 q229
                                                    cases e229
                                                    replace p229 := eq_true p229
                                                    replace q229 := eq_true q229
                                                    go_wp2
                                                    go_roundg k5
                                                    case measure => have := HJ2.out; have := HK2.out; have := HK3.out; have := HK4.out; have := HK5.out; omega
                                                    case rel => exact ⟨(ji42), (wrap64 (x54_5 + 1)), (by first | rfl | (simp; done) | (simp only [← hji42] <;> (first | rfl | simp)) | (simp [*]; done)), (by first | rfl | (simp; done) | (simp [*]; done) | (simp [isE0, isE1]; done)), H', ⟨by have := HJ2.out; have := HK2.out; have := HK3.out; have := HK4.out; have := HK5.out; omega⟩, ⟨by (with_reducible repeat (first | apply Kd.R_alloc | apply Kd.R_drewN | apply Kd.R_drew)); exact HO_5.out⟩, ⟨by (with_reducible repeat (first | apply Kd.R_alloc | apply Kd.R_drewN | apply Kd.R_drew)); exact HO_6.out⟩, ⟨by (with_reducible repeat (first | refine blk_drewN ?_ _ | refine blk_drew ?_ | refine blk_alloc ?_ _)); exact BK212.out⟩, ⟨by (with_reducible repeat (first | refine blk_drewN ?_ _ | refine blk_drew ?_ | refine blk_alloc ?_ _)); exact BK222.out⟩, ⟨by (with_reducible repeat (first | refine blk_drewN ?_ _ | refine blk_drew ?_ | refine blk_alloc ?_ _)); exact BK227.out⟩, ⟨by repeat (first | (with_reducible first | exact HB.out | apply below_alloc | apply pw_below_drewN | apply below_drew1 | refine below_set ?_ GE212.out | refine below_set ?_ GE222.out | refine below_set ?_ GE227.out) | exact HB.out)⟩⟩
                                                  · rw [if_neg c41] at H
                                                    exact absurd H (by simp)
                                                · rw [if_neg c40] at H
                                                  exact absurd H (by simp)
                                              · rw [if_neg c39] at H
                                                exact absurd H (by simp)
                                            · rw [if_neg c38] at H
                                              exact absurd H (by simp)
                                          · rw [if_neg c37] at H
                                            have c37b0 : decide (x54_5 < (((rd_T131 ((rd_T118 l0_0 x40_3).f4) x47_4).f1).length : Int)) = false := decide_eq_false c37
                                            clear c37
                                            obtain ⟨ji44, hji44⟩ : ∃ j_ : Int, (mn (wrap64 (x9_4 + x12_5)) 1000000) = j_ := ⟨_, rfl⟩
                                            replace H : (impl_CountForest.l2 k5 x5_2 x6_3 ji44 ji16 x34_2 l0_0 (l0_0.length : Int) x40_3 ((rd_T118 l0_0 x40_3).f4) (((rd_T118 l0_0 x40_3).f4).length : Int) (wrap64 (x47_4 + 1)) l0_0) = some r := by first | (rw [hji44] at H; exact H) | (simp only [hji44] at H ⊢; exact H)
                                            have hji44_ : (if 1000000 < (wrap64 (x9_4 + x12_5)) then 1000000 else (wrap64 (x9_4 + x12_5))) = ji44 := hji44
                                            have H' := Aside0.mk H
                                            clear H
                                            go_wp2
                                            go_roundg k5
                                            case measure => have := HJ2.out; have := HK2.out; have := HK3.out; have := HK4.out; have := HK5.out; omega
                                            case rel => exact ⟨(ji44), (wrap64 (x47_4 + 1)), (by first | rfl | (simp; done) | (simp only [← hji44] <;> (first | rfl | simp)) | (simp [*]; done)), (by first | rfl | (simp; done) | (simp [*]; done) | (simp [isE0, isE1]; done)), H', ⟨by have := HJ2.out; have := HK2.out; have := HK3.out; have := HK4.out; have := HK5.out; omega⟩, ⟨by (with_reducible repeat (first | apply Kd.R_alloc | apply Kd.R_drewN | apply Kd.R_drew)); exact HO_5.out⟩, ⟨by (with_reducible repeat (first | apply Kd.R_alloc | apply Kd.R_drewN | apply Kd.R_drew)); exact HO_6.out⟩, ⟨by (with_reducible repeat (first | refine blk_drewN ?_ _ | refine blk_drew ?_ | refine blk_alloc ?_ _)); exact BK212.out⟩, ⟨by (with_reducible repeat (first | refine blk_drewN ?_ _ | refine blk_drew ?_ | refine blk_alloc ?_ _)); exact BK222.out⟩, ⟨by repeat (first | (with_reducible first | exact HB.out | apply below_alloc | apply pw_below_drewN | apply below_drew1 | refine below_set ?_ GE212.out | refine below_set ?_ GE222.out | refine below_set ?_ GE227.out) | exact HB.out)⟩⟩
                                    · rw [if_neg c32] at H
                                      exact absurd H (by simp)
                                  · rw [if_neg c31] at H
                                    exact absurd H (by simp)
                                · rw [if_neg c30] at H
                                  have c30b0 : decide (x47_4 < (((rd_T118 l0_0 x40_3).f4).length : Int)) = false := decide_eq_false c30
                                  clear c30
                                  by_cases c45 : x6_3.length < 17592186044416
                                  · rw [if_pos c45] at H
                                    have LMc45 := Aside0.mk c45
                                    clear c45
                                    obtain ⟨y223, hy223⟩ : ∃ y_ : List Int, y_ = (x6_3 ++ [x9_4]) := ⟨_, rfl⟩
                                    replace H : (impl_CountForest.l1 k4 x5_2 y223 ji16 x34_2 l0_0 (l0_0.length : Int) (wrap64 (x40_3 + 1)) l0_0) = some r := by first | (rw [hy223]; with_reducible exact H) | (have H2_ := (Option.bind_some _ _).symm.trans H; rw [hy223]; with_reducible exact H2_) | (have H2_ := (Option.bind_some _ _).symm.trans H; with_reducible exact H2_) | with_reducible exact H | (rw [hy223]; exact H) | exact H
                                    have Ny223 := Aside0.mk hy223
                                    clear hy223
                                    have H' := Aside0.mk H
                                    clear H
                                    go_wp2_with (first | ((with_reducible refine gate_builtin (b := .append) (xs := #[.tmp 71, .tmp 73]) rfl ?_); at_builtin; refine Kd.R_append (Kd.int .i64) (w0 := w) w.heap.size rfl (.tmp 71) (.tmp 73) 30 3 (.int .i64 0) 8 rfl Try.underlying30 info3 rfl (by decide) (by omega) u6 x6_3 x9_4 [.int .i64 x9_4] (fun k_ => some k_ ≠ (u5 : Value).ownBlock) (fun _ => False) rfl rfl ?aP (fun _ hk => hk.elim) ?aF ?aO ?aB ?aS ?aL ?_; (case aP => exact rfl); (case aB => exact (by repeat (first | (with_reducible first | exact HB.out | apply below_alloc | apply pw_below_drewN | apply below_drew1 | refine below_set ?_ GE212.out | refine below_set ?_ GE222.out) | exact HB.out))); (case aF => exact (fun k_ hk => Kd.fresh' (Kd.R_lt (by (with_reducible repeat (first | apply Kd.R_alloc | apply Kd.R_drewN | apply Kd.R_drew)); exact HO_5.out)) k_ hk)); (case aO => exact (by (with_reducible repeat (first | apply Kd.R_alloc | apply Kd.R_drewN | apply Kd.R_drew)); exact HO_6.out)); (case aS => exact (below_size (by repeat (first | (with_reducible first | exact HB.out | apply below_alloc | apply pw_below_drewN | apply below_drew1 | refine below_set ?_ GE212.out | refine below_set ?_ GE222.out) | exact HB.out)))); (case aL => have := LMc45.out; omega); intro v224 w46 ho hb hg hat; rw [← Ny223.out] at ho; have n0_ := Aside0.mk (Kd.R_after (ok := (fun _ => True)) (by (with_reducible repeat (first | apply Kd.R_alloc | apply Kd.R_drewN | apply Kd.R_drew)); exact Kd.R_mono HO_5.out (fun _ hk => ⟨trivial, hk⟩)) hg hat); have n1_ := Aside0.mk (blk_grown (g := gb212) (o := .cells #[.slice (some ad221) l0_0.length c0_0] 41 (0, 0)) (by (with_reducible repeat (first | refine blk_drewN ?_ _ | refine blk_drew ?_ | refine blk_alloc ?_ _)); exact BK212.out) hg (Kd.R_ne HO_6.out BK212.out (by decide))); have n2_ := Aside0.mk (blk_grown (g := gb222) (o := .cells #[.int .i64 ((rd_T118 l0_0 x40_3).f0), .slice A221_1 ((rd_T118 l0_0 x40_3).f1).length c221_1, .int .i64 ((rd_T118 l0_0 x40_3).f2), .int .i64 ((rd_T118 l0_0 x40_3).f3), .slice A221_4 ((rd_T118 l0_0 x40_3).f4).length c221_4] 118 (0, 0)) (by (with_reducible repeat (first | refine blk_drewN ?_ _ | refine blk_drew ?_ | refine blk_alloc ?_ _)); exact BK222.out) hg (Kd.R_ne HO_6.out BK222.out (by decide))); have n3_ := Aside0.mk (hb); have n4_ := Aside0.mk (ho); clear HO_5; clear BK212; clear BK222; clear HB; clear HO_6; have HO_5 := n0_; have BK212 := n1_; have BK222 := n2_; have HB := n3_; have HO225 := n4_; clear n0_ n1_ n2_ n3_ n4_; clear ho hb hg hat))
                                    go_roundg k4
                                    case measure => have := HJ2.out; have := HK2.out; have := HK3.out; have := HK4.out; omega
                                    case rel => exact ⟨(y223), (wrap64 (x40_3 + 1)), (by first | rfl | (simp; done) | (simp [*]; done) | (simp [isE0, isE1]; done)), H', ⟨by have := HJ2.out; have := HK2.out; have := HK3.out; have := HK4.out; omega⟩, ⟨by (with_reducible repeat (first | apply Kd.R_alloc | apply Kd.R_drewN | apply Kd.R_drew)); exact Kd.R_mono HO_5.out (fun _ hk => hk.2)⟩, ⟨by (with_reducible repeat (first | apply Kd.R_alloc | apply Kd.R_drewN | apply Kd.R_drew)); exact HO225.out⟩, ⟨by (with_reducible repeat (first | refine blk_drewN ?_ _ | refine blk_drew ?_ | refine blk_alloc ?_ _)); exact BK212.out⟩, ⟨by repeat (first | (with_reducible first | exact HB.out | apply below_alloc | apply pw_below_drewN | apply below_drew1 | refine below_set ?_ GE212.out | refine below_set ?_ GE222.out) | exact HB.out)⟩⟩
                                  · rw [if_neg c45] at H
                                    exact absurd H (by simp)
                          · rw [if_neg c26] at H
                            exact absurd H (by simp)
                        · rw [if_neg c25] at H
                          exact absurd H (by simp)
                      · rw [if_neg c24] at H
                        have c24b0 : decide (x40_3 < (l0_0.length : Int)) = false := decide_eq_false c24
                        clear c24
                        have H' := Aside0.mk H
                        clear H
                        go_wp2
                        go_roundg k3
                        case measure => have := HJ2.out; have := HK2.out; have := HK3.out; omega
                        case rel => exact ⟨(x6_3), (wrap64 (x34_2 + 1)), (by first | rfl | (simp; done) | (simp [*]; done) | (simp [isE0, isE1]; done)), H', ⟨by have := HJ2.out; have := HK2.out; have := HK3.out; omega⟩, ⟨by (with_reducible repeat (first | apply Kd.R_alloc | apply Kd.R_drewN | apply Kd.R_drew)); exact Kd.R_mono HO_6.out (fun _ hk => trivial)⟩, ⟨by (with_reducible repeat (first | refine blk_drewN ?_ _ | refine blk_drew ?_ | refine blk_alloc ?_ _)); exact BK212.out⟩, ⟨by repeat (first | (with_reducible first | exact HB.out | apply below_alloc | apply pw_below_drewN | apply below_drew1 | refine below_set ?_ GE212.out) | exact HB.out)⟩⟩
                · rw [if_neg c20] at H
                  have c20b0 : decide (x34_2 < ji16) = false := decide_eq_false c20
                  clear c20
                  by_cases c47 : 0 < (x5_2.length : Int)
                  · rw [if_pos c47] at H
                    have c47b0 : decide (0 < (x5_2.length : Int)) = true := decide_eq_true c47
                    have c47b1 : decide (0 < x5_2.length) = true := decide_eq_true (by omega)
                    clear c47
                    obtain rfl := Option.some.inj H
                    obtain ⟨Ao48, co48, eo48⟩ := Kd.R_slice HO_5.out
                    subst eo48
                    have p217 : 0 ≤ (0 : Int) := (by omega)
                    have q217 : 0 < (x5_2.length : Int) := of_decide_eq_true (by first | (with_reducible assumption) | assumption)
                    obtain ⟨ad217, e217, hx217_0⟩ := Kd.at_int (Kd.R_reads' HO_5.out).2.2 0 p217 q217
                    cases e217
                    have qi217 : (0 < x5_2.length) = True := eq_true (by omega)
                    (try rw [show ((0 : Int)).toNat = 0 from rfl] at hx217_0)
                    (try rw [Addr.add_zero'] at hx217_0)
                    replace p217 := eq_true p217
                    replace q217 := eq_true q217
                    go_wp2
                    go_ret
                    exact ⟨by first | rfl | (simp [errW_none, errW_some] <;> rfl) | (simp only [← hji16]; first | rfl | (simp [errW_none, errW_some] <;> rfl)) | (simp [*, errW_none, errW_some] <;> rfl), by repeat (first | (with_reducible first | exact HB.out | apply below_alloc | apply pw_below_drewN | apply below_drew1 | refine below_set ?_ GE212.out) | exact HB.out)⟩
                  · rw [if_neg c47] at H
                    exact absurd H (by simp)
          · rw [if_neg c15] at H
            exact absurd H (by simp)
        · rw [if_neg c14] at H
          exact absurd H (by simp)

end Go.Proofs.Ytlkbdoejeomlmaa.PFnExactCountForest
