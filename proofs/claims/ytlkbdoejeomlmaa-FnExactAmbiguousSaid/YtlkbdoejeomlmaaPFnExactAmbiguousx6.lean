/- Written by a program of this session out of Lean's print of the translation: what the calls of these Go functions come to, in plain Lean. No condition. -/
import Derived.Test.YtlkbdoejeomlmaaPFnExactAmbiguousx0
import Derived.Test.YtlkbdoejeomlmaaPFnExactAmbiguousx5
namespace Go.Proofs.Ytlkbdoejeomlmaa.PFnExactAmbiguous
open Go.RowKit Go.Proofs.YtlkbdoejeomlmaaW.PrintWords Go.Proofs.YtlkbdoejeomlmaaW.PrintLast Go.Proofs.YtlkbdoejeomlmaaW.PrintMore
attribute [local go_sem] max2_int min2_int max_two min_two max_three min_three max_four min_four   -- for this text's walks alone
set_option linter.unusedVariables false
set_option linter.unusedSimpArgs false

/-! ### impl_comeTo: function 77 -/
mutual
def impl_comeTo.l0 : Nat → List Int → List Int → List (S118) → Option (List Int)
  | 0, _, _, _ => none
  | k + 1, x5, x6, x221000 => if (x6.length : Int) > 0 then (if 0 < (x6.length : Int) then (if 0 ≤ (rd x6 0) then (if (rd x6 0) < (x221000.length : Int) then (if 1 ≤ (x6.length : Int) then (impl_comeTo.l1 k x5 (x6.drop (1 : Int).toNat) ((rd_T118 x221000 (rd x6 0)).f4) (((rd_T118 x221000 (rd x6 0)).f4).length : Int) 0 x221000) else (none)) else (none)) else (none)) else (none)) else (some x5)
def impl_comeTo.l1 : Nat → List Int → List Int → List (S131) → Int → Int → List (S118) → Option (List Int)
  | 0, _, _, _, _, _, _ => none
  | k + 1, x5, x6, x28, x29, x30, x221000 => if x30 < x29 then (if 0 ≤ x30 then (if x30 < (x28.length : Int) then (impl_comeTo.l2 k x5 x6 x28 x29 x30 ((rd_T131 x28 x30).f1) (((rd_T131 x28 x30).f1).length : Int) 0 x221000) else (none)) else (none)) else (impl_comeTo.l0 k x5 x6 x221000)
def impl_comeTo.l2 : Nat → List Int → List Int → List (S131) → Int → Int → List Int → Int → Int → List (S118) → Option (List Int)
  | 0, _, _, _, _, _, _, _, _, _ => none
  | k + 1, x5, x6, x28, x29, x30, x35, x36, x37, x221000 => if x37 < x36 then (if 0 ≤ x37 then (if x37 < (x35.length : Int) then ((impl_within.f (rd x35 x37) 0 (wrap64 ((x221000.length : Int) - 1))).bind fun t236 => (if t236 = true then ((slices_Contains_int_int.f k x5 (rd x35 x37)).bind fun t237 => (if t237 = true then (impl_comeTo.l2 k x5 x6 x28 x29 x30 x35 x36 (wrap64 (x37 + 1)) x221000) else (if x5.length < 17592186044416 then (if x6.length < 17592186044416 then (impl_comeTo.l2 k (x5 ++ [rd x35 x37]) (x6 ++ [rd x35 x37]) x28 x29 x30 x35 x36 (wrap64 (x37 + 1)) x221000) else (none)) else (none)))) else (impl_comeTo.l2 k x5 x6 x28 x29 x30 x35 x36 (wrap64 (x37 + 1)) x221000))) else (none)) else (none)) else (impl_comeTo.l1 k x5 x6 x28 x29 (wrap64 (x30 + 1)) x221000)
end
def impl_comeTo.f (k : Nat) (l0_0 : List (S118)) (a1 : Int) : Option (List Int) := impl_comeTo.l0 k (([] : List Int)) (([a1] : List Int)) l0_0
theorem impl_comeTo.mono_l : ∀ k, (∀ y0 y1 y2, LeO (impl_comeTo.l0 k y0 y1 y2) (impl_comeTo.l0 (k + 1) y0 y1 y2)) ∧ (∀ y0 y1 y2 y3 y4 y5, LeO (impl_comeTo.l1 k y0 y1 y2 y3 y4 y5) (impl_comeTo.l1 (k + 1) y0 y1 y2 y3 y4 y5)) ∧ (∀ y0 y1 y2 y3 y4 y5 y6 y7 y8, LeO (impl_comeTo.l2 k y0 y1 y2 y3 y4 y5 y6 y7 y8) (impl_comeTo.l2 (k + 1) y0 y1 y2 y3 y4 y5 y6 y7 y8))
  | 0 => ⟨fun _ _ _ r h => by simp [impl_comeTo.l0] at h, fun _ _ _ _ _ _ r h => by simp [impl_comeTo.l1] at h, fun _ _ _ _ _ _ _ _ _ r h => by simp [impl_comeTo.l2] at h⟩
  | k + 1 => by
    obtain ⟨ih0, ih1, ih2⟩ := impl_comeTo.mono_l k
    refine ⟨?_, ?_, ?_⟩
    · intro y0 y1 y2
      unfold impl_comeTo.l0
      repeat' first
      | (with_reducible exact ih0 _ _ _)
      | (with_reducible exact ih1 _ _ _ _ _ _)
      | (with_reducible exact ih2 _ _ _ _ _ _ _ _ _)
      | (with_reducible exact slices_Contains_int_int.mono _ _ _)
      | (with_reducible exact LeO.refl _)
      | (with_reducible exact LeO.none _)
      | (with_reducible refine LeO.ite ?_ ?_)
      | (with_reducible refine LeO.bind ?_ (fun _ => ?_))
      | exact ih0 _ _ _
      | exact ih1 _ _ _ _ _ _
      | exact ih2 _ _ _ _ _ _ _ _ _
      | exact slices_Contains_int_int.mono _ _ _
      | exact LeO.none _
      | refine LeO.ite ?_ ?_
      | refine LeO.bind ?_ (fun _ => ?_)
    · intro y0 y1 y2 y3 y4 y5
      unfold impl_comeTo.l1
      repeat' first
      | (with_reducible exact ih0 _ _ _)
      | (with_reducible exact ih1 _ _ _ _ _ _)
      | (with_reducible exact ih2 _ _ _ _ _ _ _ _ _)
      | (with_reducible exact slices_Contains_int_int.mono _ _ _)
      | (with_reducible exact LeO.refl _)
      | (with_reducible exact LeO.none _)
      | (with_reducible refine LeO.ite ?_ ?_)
      | (with_reducible refine LeO.bind ?_ (fun _ => ?_))
      | exact ih0 _ _ _
      | exact ih1 _ _ _ _ _ _
      | exact ih2 _ _ _ _ _ _ _ _ _
      | exact slices_Contains_int_int.mono _ _ _
      | exact LeO.none _
      | refine LeO.ite ?_ ?_
      | refine LeO.bind ?_ (fun _ => ?_)
    · intro y0 y1 y2 y3 y4 y5 y6 y7 y8
      unfold impl_comeTo.l2
      repeat' first
      | (with_reducible exact ih0 _ _ _)
      | (with_reducible exact ih1 _ _ _ _ _ _)
      | (with_reducible exact ih2 _ _ _ _ _ _ _ _ _)
      | (with_reducible exact slices_Contains_int_int.mono _ _ _)
      | (with_reducible exact LeO.refl _)
      | (with_reducible exact LeO.none _)
      | (with_reducible refine LeO.ite ?_ ?_)
      | (with_reducible refine LeO.bind ?_ (fun _ => ?_))
      | exact ih0 _ _ _
      | exact ih1 _ _ _ _ _ _
      | exact ih2 _ _ _ _ _ _ _ _ _
      | exact slices_Contains_int_int.mono _ _ _
      | exact LeO.none _
      | refine LeO.ite ?_ ?_
      | refine LeO.bind ?_ (fun _ => ?_)
theorem impl_comeTo.mono : ∀ a0 a1 k, LeO (impl_comeTo.f k a0 a1) (impl_comeTo.f (k + 1) a0 a1) := by
  intro a0 a1 k
  obtain ⟨ih0, ih1, ih2⟩ := impl_comeTo.mono_l k
  unfold impl_comeTo.f
  repeat' first
      | (with_reducible exact ih0 _ _ _)
      | (with_reducible exact ih1 _ _ _ _ _ _)
      | (with_reducible exact ih2 _ _ _ _ _ _ _ _ _)
      | (with_reducible exact slices_Contains_int_int.mono _ _ _)
      | (with_reducible exact LeO.refl _)
      | (with_reducible exact LeO.none _)
      | (with_reducible refine LeO.ite ?_ ?_)
      | (with_reducible refine LeO.bind ?_ (fun _ => ?_))
      | exact ih0 _ _ _
      | exact ih1 _ _ _ _ _ _
      | exact ih2 _ _ _ _ _ _ _ _ _
      | exact slices_Contains_int_int.mono _ _ _
      | exact LeO.none _
      | refine LeO.ite ?_ ?_
      | refine LeO.bind ?_ (fun _ => ?_)
def impl_comeTo.T4 : Bool × List (List Nat × List Nat) := (true, [([], []), ([0], [0]), ([], []), ([2], [2]), ([3], [3]), ([1, 4], [1, 4]), ([5], [5]), ([], []), ([7, 6, 0, 1, 2, 3, 4, 5, 6, 7], [6, 7])])
def impl_comeTo.B4 : List Nat := [0, 1, 0, 4, 12, 31, 63, 0, 255]
theorem impl_comeTo.tab4 : rtab .any (opsOf Try.f77 4) = impl_comeTo.T4 := by kernel_rfl
theorem impl_comeTo.bits4 : waitsOk impl_comeTo.T4.2 impl_comeTo.B4 = true := by kernel_rfl
set_option maxHeartbeats 8000000 in
set_option maxRecDepth 100000 in
theorem impl_comeTo.calls (k : Nat) (A0_0 : Option Addr) (c0_0 : Nat) (l0_0 : List (S118)) (a1 : Int) (r : List Int) (w : World) (hr0_0 : Kd.C k118 w A0_0 l0_0.length l0_0) (hc0_0 : l0_0.length ≤ c0_0) (h : impl_comeTo.f k l0_0 a1 = some r) :
    Calls Try.prog 77 #[.agg #[.slice A0_0 l0_0.length c0_0], .int .i64 a1] w fun e w' => ∃ v0_ : Value, e = .returned (v0_) ∧ Kd.R (Kd.int .i64) 3 w' w.heap.size (fun _ => True) v0_ r ∧ Below w.heap.size w w' := by
  have hu41 := Try.underlying41
  have hu118 := Try.underlying118
  have hu131 := Try.underlying131
  have HR0_0 := Aside0.mk hr0_0
  have HC0_0 := Aside0.mk hc0_0
  clear hr0_0 hc0_0
  have HB := Aside0.mk (Below.refl w.heap.size w)
  have H : (impl_comeTo.l0 k (([] : List Int)) (([a1] : List Int)) l0_0) = some r := h
  clear h
  obtain ⟨y221, hy221⟩ : ∃ y_ : List Int, y_ = (([] : List Int)) := ⟨_, rfl⟩
  replace H : (impl_comeTo.l0 k y221 (([a1] : List Int)) l0_0) = some r := by first | (rw [hy221]; with_reducible exact H) | (have H2_ := (Option.bind_some _ _).symm.trans H; rw [hy221]; with_reducible exact H2_) | (have H2_ := (Option.bind_some _ _).symm.trans H; with_reducible exact H2_) | with_reducible exact H | (rw [hy221]; exact H) | exact H
  have Ny221 := Aside0.mk hy221
  clear hy221
  obtain ⟨y224, hy224⟩ : ∃ y_ : List Int, y_ = (([a1] : List Int)) := ⟨_, rfl⟩
  replace H : (impl_comeTo.l0 k y221 y224 l0_0) = some r := by first | (rw [hy224]; with_reducible exact H) | (have H2_ := (Option.bind_some _ _).symm.trans H; rw [hy224]; with_reducible exact H2_) | (have H2_ := (Option.bind_some _ _).symm.trans H; with_reducible exact H2_) | with_reducible exact H | (rw [hy224]; exact H) | exact H
  have Ny224 := Aside0.mk hy224
  clear hy224
  have H' := Aside0.mk H
  clear H
  go_enter Try.func77, Try.ntmps77
  go_wp2_with (first | ((with_reducible refine gate_dst (N := 2) rfl ?_); refine box_event ?hg (N := 2) ?hd (cs := #[.slice A0_0 l0_0.length c0_0]) (t := 41) ?hr ?_; (case hd => rfl); (case hg => rfl); (case hr => first | (go_simp; done) | (go_simp; rfl)); intro gb220 hg w3 hbox hb; have n0_ := Aside0.mk (below_step (by repeat (first | (with_reducible first | exact HB.out | apply below_alloc | apply pw_below_drewN | apply below_drew1) | exact HB.out)) hb); have n1_ := Aside0.mk (hbox); have n2_ := Aside0.mk ((by rw [hg]; exact (below_size (by repeat (first | (with_reducible first | exact HB.out | apply below_alloc | apply pw_below_drewN | apply below_drew1) | exact HB.out))) : w.heap.size ≤ gb220)); have n3_ := Aside0.mk ((by rw [hg]; exact (below_size (by repeat (first | (with_reducible first | exact HB.out | apply below_alloc | apply pw_below_drewN | apply below_drew1) | exact HB.out))) : w.heap.size ≤ gb220)); clear HB; have HB := n0_; have BK220 := n1_; have GW220 := n2_; have GE220 := n3_; clear n0_ n1_ n2_ n3_; clear hb hbox hg) | ((with_reducible refine gate_dst (N := 12) rfl ?_); refine Kd.R_lit (Kd.int .i64) _ 3 ?hg (N := 12) ?hd (xs := ([] : List Int)) (inner := []) (ok := fun _ => True) (okp := fun _ => True) ?hr ?hp (fun _ hk => hk) trivial (Below.refl _ _) (Nat.le_refl _) (by simp) ?_; (case hd => rfl); (case hg => rfl); (case hr => first | (go_simp; done) | (go_simp; rfl)); (case hp => exact (Reps.none _ _)); intro v222 w4 ho5 hb hg_ hnew_; clear hg_ hnew_; (first | rw [← Ny221.out] at ho5 | (simp only [Int.reduceToNat] at ho5; rw [← Ny221.out] at ho5)); have n0_ := Aside0.mk (Kd.R_lower ho5 (below_size (by repeat (first | (with_reducible first | exact HB.out | apply below_alloc | apply pw_below_drewN | apply below_drew1 | refine below_set ?_ GE220.out) | exact HB.out)))); have n1_ := Aside0.mk (blk_below (g := gb220) (o := .cells #[.slice A0_0 l0_0.length c0_0] 41 (0, 0)) (by (with_reducible repeat (first | refine blk_drewN ?_ _ | refine blk_drew ?_ | refine blk_alloc ?_ _)); exact BK220.out) hb); have n2_ := Aside0.mk (below_step (by repeat (first | (with_reducible first | exact HB.out | apply below_alloc | apply pw_below_drewN | apply below_drew1 | refine below_set ?_ GE220.out) | exact HB.out)) hb); clear BK220; clear HB; have HO223 := n0_; have BK220 := n1_; have HB := n2_; clear n0_ n1_ n2_; clear hb ho5) | ((with_reducible refine gate_dst (N := 14) rfl ?_); refine Kd.R_lit (Kd.int .i64) _ 3 ?hg (N := 14) ?hd (xs := ([a1] : List Int)) (inner := [.int .i64 a1]) (ok := fun _ => True) (okp := fun _ => True) ?hr ?hp (fun _ hk => hk) trivial (Below.refl _ _) (Nat.le_refl _) (by simp) ?_; (case hd => rfl); (case hg => rfl); (case hr => first | (go_simp; done) | (go_simp; rfl)); (case hp => exact (Reps.one (show Kd.M (Kd.int .i64) _ _ _ a1 [.int .i64 a1] from rfl) (Reps.none _ _))); intro v225 w6 ho7 hb hg_ hnew_; clear hg_ hnew_; (first | rw [← Ny224.out] at ho7 | (simp only [Int.reduceToNat] at ho7; rw [← Ny224.out] at ho7)); have n0_ := Aside0.mk (Kd.R_elder' (by (with_reducible repeat (first | apply Kd.R_alloc | apply Kd.R_drewN | apply Kd.R_drew)); exact HO223.out) (Kd.R_base ho7) hb); have n1_ := Aside0.mk (Kd.R_lower (Kd.R_new' ho7 (Kd.R_lt (by (with_reducible repeat (first | apply Kd.R_alloc | apply Kd.R_drewN | apply Kd.R_drew)); exact HO223.out))) (below_size (by repeat (first | (with_reducible first | exact HB.out | apply below_alloc | apply pw_below_drewN | apply below_drew1 | refine below_set ?_ GE220.out) | exact HB.out)))); have n2_ := Aside0.mk (blk_below (g := gb220) (o := .cells #[.slice A0_0 l0_0.length c0_0] 41 (0, 0)) (by (with_reducible repeat (first | refine blk_drewN ?_ _ | refine blk_drew ?_ | refine blk_alloc ?_ _)); exact BK220.out) hb); have n3_ := Aside0.mk (below_step (by repeat (first | (with_reducible first | exact HB.out | apply below_alloc | apply pw_below_drewN | apply below_drew1 | refine below_set ?_ GE220.out) | exact HB.out)) hb); clear HO223; clear BK220; clear HB; have HO223 := n0_; have HO226 := n1_; have BK220 := n2_; have HB := n3_; clear n0_ n1_ n2_ n3_; clear hb ho7))
  go_loopg [5, 6] k (fun kq v5 v6 w' => ∃ (x5_1 : List Int) (x6_1 : List Int), Aside0 (impl_comeTo.l0 kq x5_1 x6_1 l0_0 = some r) ∧ Aside0 (kq ≤ k) ∧ Aside0 (Kd.R (Kd.int .i64) 3 w' w.heap.size (fun k_ => some k_ ≠ (v6 : Value).ownBlock) v5 x5_1) ∧ Aside0 (Kd.Q (Kd.int .i64) 3 w' w.heap.size (fun k_ => some k_ ≠ (v5 : Value).ownBlock) v6 x6_1) ∧ Aside0 (w'.heap[gb220]? = some (.cells #[(.slice A0_0 l0_0.length c0_0)] 41 (0, 0))) ∧ Aside0 (Below w.heap.size w w'))
  case atStart => exact ⟨(y221), (y224), H', ⟨Nat.le_refl _⟩, ⟨by (with_reducible repeat (first | apply Kd.R_alloc | apply Kd.R_drewN | apply Kd.R_drew)); exact Kd.R_mono HO223.out (fun _ hk => hk.2)⟩, ⟨Kd.Q_of_R (by (with_reducible repeat (first | apply Kd.R_alloc | apply Kd.R_drewN | apply Kd.R_drew)); exact Kd.R_mono HO226.out (fun _ hk => hk.2))⟩, ⟨by (with_reducible repeat (first | refine blk_drewN ?_ _ | refine blk_drew ?_ | refine blk_alloc ?_ _)); exact BK220.out⟩, ⟨by repeat (first | (with_reducible first | exact HB.out | apply below_alloc | apply pw_below_drewN | apply below_drew1 | refine below_set ?_ GE220.out) | exact HB.out)⟩⟩
  case round =>
    clear H'
    try clear p2
    try clear c7
    obtain ⟨x5_1, x6_1, HA, HK1, HO_5, HO_6, BK220, HB⟩ := hrel
    cases gk with
    | zero => exact absurd HA.out (by simp [impl_comeTo.l0])
    | succ k1 =>
      have H := HA.out
      clear HA
      simp only [impl_comeTo.l0] at H
      by_cases c8 : (x6_1.length : Int) > 0
      · rw [if_pos c8] at H
        have c8b0 : decide (0 < (x6_1.length : Int)) = true := decide_eq_true c8
        have c8b1 : decide (0 < x6_1.length) = true := decide_eq_true (by omega)
        clear c8
        by_cases c9 : 0 < (x6_1.length : Int)
        · rw [if_pos c9] at H
          have c9b0 : decide (0 < (x6_1.length : Int)) = true := decide_eq_true c9
          have c9b1 : decide (0 < x6_1.length) = true := decide_eq_true (by omega)
          clear c9
          by_cases c10 : 0 ≤ (rd x6_1 0)
          · rw [if_pos c10] at H
            have c10b0 : decide (0 ≤ (rd x6_1 0)) = true := decide_eq_true c10
            clear c10
            by_cases c11 : (rd x6_1 0) < (l0_0.length : Int)
            · rw [if_pos c11] at H
              have c11b0 : decide ((rd x6_1 0) < (l0_0.length : Int)) = true := decide_eq_true c11
              clear c11
              by_cases c12 : 1 ≤ (x6_1.length : Int)
              · rw [if_pos c12] at H
                have c12b0 := eq_true c12
                have c12b1 : decide (1 ≤ (x6_1.length : Int)) = true := decide_eq_true c12
                clear c12
                obtain ⟨y230, hy230⟩ : ∃ y_ : List Int, y_ = (x6_1.drop (1 : Int).toNat) := ⟨_, rfl⟩
                replace H : (impl_comeTo.l1 k1 x5_1 y230 ((rd_T118 l0_0 (rd x6_1 0)).f4) (((rd_T118 l0_0 (rd x6_1 0)).f4).length : Int) 0 l0_0) = some r := by first | (rw [hy230]; with_reducible exact H) | (have H2_ := (Option.bind_some _ _).symm.trans H; rw [hy230]; with_reducible exact H2_) | (have H2_ := (Option.bind_some _ _).symm.trans H; with_reducible exact H2_) | with_reducible exact H | (rw [hy230]; exact H) | exact H
                have Ny230 := Aside0.mk hy230
                clear hy230
                have H' := Aside0.mk H
                clear H
                obtain ⟨Ao13, co13, eo13, _⟩ := Kd.Q_slice HO_6.out
                subst eo13
                try go_wp2
                have n0_ := Aside0.mk (Kd.R_drew HO_5.out)
                have n1_ := Aside0.mk (Kd.Q_drew HO_6.out)
                have n2_ := Aside0.mk (blk_drew BK220.out)
                have n3_ := Aside0.mk (below_drew1 HB.out)
                clear HO_5
                clear HO_6
                clear BK220
                clear HB
                have HO_5 := n0_
                have HO_6 := n1_
                have BK220 := n2_
                have HB := n3_
                clear n0_ n1_ n2_ n3_
                have p227 : 0 ≤ (0 : Int) := (by omega)
                have q227 : 0 < (x6_1.length : Int) := of_decide_eq_true (by first | (with_reducible assumption) | assumption)
                obtain ⟨ad227, e227, hx227_0⟩ := Kd.at_int (Kd.Q_reads' HO_6.out).2.2 0 p227 q227
                cases e227
                have qi227 : (0 < x6_1.length) = True := eq_true (by omega)
                (try rw [show ((0 : Int)).toNat = 0 from rfl] at hx227_0)
                (try rw [Addr.add_zero'] at hx227_0)
                replace p227 := eq_true p227
                replace q227 := eq_true q227
                have p228 : 0 ≤ ((rd x6_1 0) : Int) := of_decide_eq_true (by first | (with_reducible assumption) | assumption)
                have q228 : (rd x6_1 0) < (l0_0.length : Int) := of_decide_eq_true (by first | (with_reducible assumption) | assumption)
                obtain ⟨ad228, A228_1, c228_1, A228_4, c228_4, e228, hx228_0, hx228_1, hx228_2, hx228_3, hx228_4, hl228_1, hi228_1, hl228_4, hi228_4⟩ := at_T118 HR0_0.out (rd x6_1 0) p228 q228
                have hw228_4 := hx228_4
                have hw228_3 := hx228_3
                have hw228_2 := hx228_2
                have hw228_1 := hx228_1
                have hw228_0 := hx228_0
                cases e228
                replace hx228_0 := (HB.out.cell (World.block_lt_of_cell? w _ hx228_0)).trans hx228_0
                replace hx228_1 := (HB.out.cell (World.block_lt_of_cell? w _ hx228_1)).trans hx228_1
                replace hx228_2 := (HB.out.cell (World.block_lt_of_cell? w _ hx228_2)).trans hx228_2
                replace hx228_3 := (HB.out.cell (World.block_lt_of_cell? w _ hx228_3)).trans hx228_3
                replace hx228_4 := (HB.out.cell (World.block_lt_of_cell? w _ hx228_4)).trans hx228_4
                have HR228_1 := Aside0.mk hi228_1
                have HC228_1 := Aside0.mk hl228_1
                clear hi228_1 hl228_1
                have HR228_4 := Aside0.mk hi228_4
                have HC228_4 := Aside0.mk hl228_4
                clear hi228_4 hl228_4
                replace p228 := eq_true p228
                replace q228 := eq_true q228
                refine start_ (n := 9) (S := fun w' => w'.cell? ⟨gb220, 0, none⟩ = some (.slice (some ad228) l0_0.length c0_0) ∧ w'.cell? ad227 = some (.int .i64 (rd x6_1 0)) ∧ w'.cell? (ad228.add (((rd x6_1 0)).toNat * 5)) = some (.int .i64 ((rd_T118 l0_0 (rd x6_1 0)).f0)) ∧ w'.cell? ⟨(ad228.add (((rd x6_1 0)).toNat * 5)).block, (ad228.add (((rd x6_1 0)).toNat * 5)).off + 1, none⟩ = some (.slice A228_1 ((rd_T118 l0_0 (rd x6_1 0)).f1).length c228_1) ∧ w'.cell? ⟨(ad228.add (((rd x6_1 0)).toNat * 5)).block, (ad228.add (((rd x6_1 0)).toNat * 5)).off + 2, none⟩ = some (.int .i64 ((rd_T118 l0_0 (rd x6_1 0)).f2)) ∧ w'.cell? ⟨(ad228.add (((rd x6_1 0)).toNat * 5)).block, (ad228.add (((rd x6_1 0)).toNat * 5)).off + 3, none⟩ = some (.int .i64 ((rd_T118 l0_0 (rd x6_1 0)).f3)) ∧ w'.cell? ⟨(ad228.add (((rd x6_1 0)).toNat * 5)).block, (ad228.add (((rd x6_1 0)).toNat * 5)).off + 4, none⟩ = some (.slice A228_4 ((rd_T118 l0_0 (rd x6_1 0)).f4).length c228_4)) (ds := []) #[false, false, false, false, false, false, false, false, false] (by kernel_rfl) rfl rfl ⟨(blk_cell BK220.out 0).trans rfl, hx227_0, ((HB.out.cell (World.block_lt_of_cell? w _ hw228_0)).trans hw228_0), ((HB.out.cell (World.block_lt_of_cell? w _ hw228_1)).trans hw228_1), ((HB.out.cell (World.block_lt_of_cell? w _ hw228_2)).trans hw228_2), ((HB.out.cell (World.block_lt_of_cell? w _ hw228_3)).trans hw228_3), ((HB.out.cell (World.block_lt_of_cell? w _ hw228_4)).trans hw228_4)⟩ (fun hHeld => ?_); refine with_tabW impl_comeTo.tab4 impl_comeTo.bits4 (fun HT_ HW_ => ?_)
                generalize wr.drew = w14 at HO_5 HO_6 BK220 HB HR228_1 HR228_4 hx227_0 hx228_0 hx228_1 hx228_2 hx228_3 hx228_4 hHeld ⊢
                refine pure_ (i := 0) (N := some 18) (v := ?_) (a' := ?_) #[true, false, false, false, false, false, false, false, false] rfl rfl (any_of HT_.out (by kernel_rfl)) (fun _ _ _ h => h) (Or.inl ⟨by rfl, ?_⟩) ?_ ?_
                rotate_left
                · intro w'
                  go_simp
                  with_reducible rfl
                rotate_left
                · simp only [Act.put, List.setIfInBounds_toArray, List.set_cons_zero, List.set_cons_succ, i64_w, i32_w]
                  rfl
                refine pure_ (i := 2) (N := some 20) (v := ?_) (a' := ?_) #[true, false, true, false, false, false, false, false, false] rfl rfl (any_of HT_.out (by kernel_rfl)) (fun _ _ _ h => h) (Or.inl ⟨by rfl, ?_⟩) ?_ ?_
                rotate_left
                · intro w'
                  go_simp
                  with_reducible rfl
                rotate_left
                · simp only [Act.put, List.setIfInBounds_toArray, List.set_cons_zero, List.set_cons_succ, i64_w, i32_w]
                  rfl
                refine pure_ (i := 3) (N := some 21) (v := ?_) (a' := ?_) #[true, false, true, true, false, false, false, false, false] rfl rfl (any_of HT_.out (by kernel_rfl)) (fun _ _ _ h => h) (Or.inl ⟨by rfl, ?_⟩) ?_ ?_
                rotate_left
                · intro w'
                  go_simp
                  with_reducible rfl
                rotate_left
                · simp only [Act.put, List.setIfInBounds_toArray, List.set_cons_zero, List.set_cons_succ, i64_w, i32_w]
                  rfl
                refine take_ (i := 1) (N := some 19) (v := ?_) (a' := ?_) #[true, true, true, true, false, false, false, false, false] rfl rfl (take_ofW HT_.out HW_.out (by kernel_rfl)) (fun _ _ _ h => h) (Or.inl ⟨by rfl, ?_⟩) hHeld ?_ ?_
                rotate_left
                · rintro w' ⟨s0, s1, s2, s3, s4, s5, s6⟩
                  go_simp
                  with_reducible rfl
                rotate_left
                · simp only [Act.put, List.setIfInBounds_toArray, List.set_cons_zero, List.set_cons_succ, i64_w, i32_w]
                  rfl
                refine take_ (i := 4) (N := some 22) (v := ?_) (a' := ?_) #[true, true, true, true, true, false, false, false, false] rfl rfl (take_ofW HT_.out HW_.out (by kernel_rfl)) (fun _ _ _ h => h) (Or.inl ⟨by rfl, ?_⟩) hHeld ?_ ?_
                rotate_left
                · rintro w' ⟨s0, s1, s2, s3, s4, s5, s6⟩
                  go_simp
                  with_reducible rfl
                rotate_left
                · simp only [Act.put, List.setIfInBounds_toArray, List.set_cons_zero, List.set_cons_succ, i64_w, i32_w]
                  rfl
                refine pure_ (i := 5) (N := some 23) (v := ?_) (a' := ?_) #[true, true, true, true, true, true, false, false, false] rfl rfl (any_of HT_.out (by kernel_rfl)) (fun _ _ _ h => h) (Or.inl ⟨by rfl, ?_⟩) ?_ ?_
                rotate_left
                · intro w'
                  go_simp
                  with_reducible rfl
                rotate_left
                · simp only [Act.put, List.setIfInBounds_toArray, List.set_cons_zero, List.set_cons_succ, i64_w, i32_w]
                  rfl
                refine take_ (i := 6) (N := some 24) (v := ?_) (a' := ?_) #[true, true, true, true, true, true, true, false, false] rfl rfl (take_ofW HT_.out HW_.out (by kernel_rfl)) (fun _ _ _ h => h) (Or.inl ⟨by rfl, ?_⟩) hHeld ?_ ?_
                rotate_left
                · rintro w' ⟨s0, s1, s2, s3, s4, s5, s6⟩
                  go_simp
                  with_reducible rfl
                rotate_left
                · simp only [Act.put, List.setIfInBounds_toArray, List.set_cons_zero, List.set_cons_succ, i64_w, i32_w]
                  rfl
                refine one_ (i := 7) (N := some 7) #[true, true, true, true, true, true, true, true, false] rfl rfl (one_of HT_.out (by kernel_rfl)) (by decide) (fun K hK => ?_)
                refine box_step ?hg (N := 7) ?hd (cs := #[.int .i64 0, .slice none 0 0, .int .i64 0, .int .i64 0, .slice none 0 0]) (t := 118) ?hr ?_; (case hd => rfl); (case hg => rfl); (case hr => first | (go_simp; done) | (go_simp; rfl))
                intro gb229 hg w15 hbox hb
                have HS1_ := (hb.cell (World.block_lt_of_cell? _ _ (hHeld.2.1))).trans (hHeld.2.1)
                have n0_ := Aside0.mk (Kd.R_below (by (with_reducible repeat (first | apply Kd.R_alloc | apply Kd.R_drewN | apply Kd.R_drew)); exact HO_5.out) hb)
                have n1_ := Aside0.mk (Kd.Q_below (by (with_reducible repeat (first | apply Kd.Q_alloc | apply Kd.Q_drewN | apply Kd.Q_drew)); exact HO_6.out) hb)
                have n2_ := Aside0.mk (blk_below (g := gb220) (o := .cells #[.slice (some ad228) l0_0.length c0_0] 41 (0, 0)) (by (with_reducible repeat (first | refine blk_drewN ?_ _ | refine blk_drew ?_ | refine blk_alloc ?_ _)); exact BK220.out) hb)
                have n3_ := Aside0.mk (below_step (by repeat (first | (with_reducible first | exact HB.out | apply below_alloc | apply pw_below_drewN | apply below_drew1 | refine below_set ?_ GE220.out) | exact HB.out)) hb)
                have n4_ := Aside0.mk (hbox)
                have n5_ := Aside0.mk ((by rw [hg]; exact (below_size (by repeat (first | (with_reducible first | exact HB.out | apply below_alloc | apply pw_below_drewN | apply below_drew1 | refine below_set ?_ GE220.out) | exact HB.out))) : w.heap.size ≤ gb229))
                have n6_ := Aside0.mk ((by rw [hg]; exact (below_size (by repeat (first | (with_reducible first | exact HB.out | apply below_alloc | apply pw_below_drewN | apply below_drew1 | refine below_set ?_ GE220.out) | exact HB.out))) : w.heap.size ≤ gb229))
                have n7_ := Aside0.mk ((by rw [hg]; exact Nat.ne_of_lt (blk_lt (g := gb220) (o := .cells #[.slice (some ad228) l0_0.length c0_0] 41 (0, 0)) (by (with_reducible repeat (first | refine blk_drewN ?_ _ | refine blk_drew ?_ | refine blk_alloc ?_ _)); exact BK220.out)) : gb220 ≠ gb229))
                have n8_ := Aside0.mk ((by rw [hg]; exact Nat.ne_of_gt (blk_lt (g := gb220) (o := .cells #[.slice (some ad228) l0_0.length c0_0] 41 (0, 0)) (by (with_reducible repeat (first | refine blk_drewN ?_ _ | refine blk_drew ?_ | refine blk_alloc ?_ _)); exact BK220.out)) : gb229 ≠ gb220))
                clear HO_5
                clear HO_6
                clear BK220
                clear HB
                have HO_5 := n0_
                have HO_6 := n1_
                have BK220 := n2_
                have HB := n3_
                have BK229 := n4_
                have GW229 := n5_
                have GE229 := n6_
                have NB220_229 := n7_
                have NB229_220 := n8_
                clear n0_ n1_ n2_ n3_ n4_ n5_ n6_ n7_ n8_
                clear hb hbox hg
                refine hK.out _ _ ⟨(blk_cell BK220.out 0).trans rfl, HS1_, ((HB.out.cell (World.block_lt_of_cell? w _ hw228_0)).trans hw228_0), ((HB.out.cell (World.block_lt_of_cell? w _ hw228_1)).trans hw228_1), ((HB.out.cell (World.block_lt_of_cell? w _ hw228_2)).trans hw228_2), ((HB.out.cell (World.block_lt_of_cell? w _ hw228_3)).trans hw228_3), ((HB.out.cell (World.block_lt_of_cell? w _ hw228_4)).trans hw228_4)⟩ (fun hHeld => ?_)
                clear hK K
                refine norm_ (a' := ?_) ?_ ?_
                rotate_left
                · show Act.put _ (some 7) _ = _
                  simp only [Act.put, List.setIfInBounds_toArray, List.set_cons_zero, List.set_cons_succ, i64_w, i32_w]
                  rfl
                refine one_ (i := 8) (N := none) #[true, true, true, true, true, true, true, true, true] rfl rfl (one_of HT_.out (by kernel_rfl)) (by decide) (fun K hK => ?_)
                have hs16 : w15.cell? ⟨gb229, 0, none⟩ = some (.int .i64 0) := (blk_cell BK229.out 0).trans rfl
                have hfs16 := blk_frozen BK229.out 0
                have hns16_0 := NB220_229.out
                have hms16_0 := NB229_220.out
                have hs17 : w15.cell? ⟨gb229, 1, none⟩ = some (.slice none 0 0) := (blk_cell BK229.out 1).trans rfl
                have hfs17 := blk_frozen BK229.out 1
                have hns17_0 := NB220_229.out
                have hms17_0 := NB229_220.out
                have hs18 : w15.cell? ⟨gb229, 2, none⟩ = some (.int .i64 0) := (blk_cell BK229.out 2).trans rfl
                have hfs18 := blk_frozen BK229.out 2
                have hns18_0 := NB220_229.out
                have hms18_0 := NB229_220.out
                have hs19 : w15.cell? ⟨gb229, 3, none⟩ = some (.int .i64 0) := (blk_cell BK229.out 3).trans rfl
                have hfs19 := blk_frozen BK229.out 3
                have hns19_0 := NB220_229.out
                have hms19_0 := NB229_220.out
                have hs20 : w15.cell? ⟨gb229, 4, none⟩ = some (.slice none 0 0) := (blk_cell BK229.out 4).trans rfl
                have hfs20 := blk_frozen BK229.out 4
                have hns20_0 := NB220_229.out
                have hms20_0 := NB229_220.out
                refine skip_ (w1 := ?_) (by rfl) rfl ?_ ?_
                rotate_left
                · go_simp
                  rfl
                refine hK.out _ _ ⟨((cell_far (p := ⟨gb229, _, none⟩) NB220_229.out _).trans (((cell_far (p := ⟨gb229, _, none⟩) NB220_229.out _).trans (((cell_far (p := ⟨gb229, _, none⟩) NB220_229.out _).trans (((cell_far (p := ⟨gb229, _, none⟩) NB220_229.out _).trans (((cell_far (p := ⟨gb229, _, none⟩) NB220_229.out _).trans (hHeld.1)))))))))), ((cell_far (p := ⟨gb229, _, none⟩) (by first | exact Kd.own_blk (Kd.Q_ne HO_6.out BK229.out (by decide)) | (rw [add_block]; exact Kd.own_blk (Kd.Q_ne HO_6.out BK229.out (by decide))) | (show (Addr.add _ _).block ≠ _; rw [add_block]; exact Kd.own_blk (Kd.Q_ne HO_6.out BK229.out (by decide))) | (dsimp only; exact Kd.own_blk (Kd.Q_ne HO_6.out BK229.out (by decide)))) _).trans (((cell_far (p := ⟨gb229, _, none⟩) (by first | exact Kd.own_blk (Kd.Q_ne HO_6.out BK229.out (by decide)) | (rw [add_block]; exact Kd.own_blk (Kd.Q_ne HO_6.out BK229.out (by decide))) | (show (Addr.add _ _).block ≠ _; rw [add_block]; exact Kd.own_blk (Kd.Q_ne HO_6.out BK229.out (by decide))) | (dsimp only; exact Kd.own_blk (Kd.Q_ne HO_6.out BK229.out (by decide)))) _).trans (((cell_far (p := ⟨gb229, _, none⟩) (by first | exact Kd.own_blk (Kd.Q_ne HO_6.out BK229.out (by decide)) | (rw [add_block]; exact Kd.own_blk (Kd.Q_ne HO_6.out BK229.out (by decide))) | (show (Addr.add _ _).block ≠ _; rw [add_block]; exact Kd.own_blk (Kd.Q_ne HO_6.out BK229.out (by decide))) | (dsimp only; exact Kd.own_blk (Kd.Q_ne HO_6.out BK229.out (by decide)))) _).trans (((cell_far (p := ⟨gb229, _, none⟩) (by first | exact Kd.own_blk (Kd.Q_ne HO_6.out BK229.out (by decide)) | (rw [add_block]; exact Kd.own_blk (Kd.Q_ne HO_6.out BK229.out (by decide))) | (show (Addr.add _ _).block ≠ _; rw [add_block]; exact Kd.own_blk (Kd.Q_ne HO_6.out BK229.out (by decide))) | (dsimp only; exact Kd.own_blk (Kd.Q_ne HO_6.out BK229.out (by decide)))) _).trans (((cell_far (p := ⟨gb229, _, none⟩) (by first | exact Kd.own_blk (Kd.Q_ne HO_6.out BK229.out (by decide)) | (rw [add_block]; exact Kd.own_blk (Kd.Q_ne HO_6.out BK229.out (by decide))) | (show (Addr.add _ _).block ≠ _; rw [add_block]; exact Kd.own_blk (Kd.Q_ne HO_6.out BK229.out (by decide))) | (dsimp only; exact Kd.own_blk (Kd.Q_ne HO_6.out BK229.out (by decide)))) _).trans (hHeld.2.1)))))))))), ((cell_far (p := ⟨gb229, _, none⟩) (by first | exact Nat.ne_of_lt (Nat.lt_of_lt_of_le (by have := World.block_lt_of_cell? _ _ hw228_0; first | rwa [add_block] at this | exact this) GW229.out) | (rw [add_block]; exact Nat.ne_of_lt (Nat.lt_of_lt_of_le (by have := World.block_lt_of_cell? _ _ hw228_0; first | rwa [add_block] at this | exact this) GW229.out)) | (show (Addr.add _ _).block ≠ _; rw [add_block]; exact Nat.ne_of_lt (Nat.lt_of_lt_of_le (by have := World.block_lt_of_cell? _ _ hw228_0; first | rwa [add_block] at this | exact this) GW229.out)) | (dsimp only; exact Nat.ne_of_lt (Nat.lt_of_lt_of_le (by have := World.block_lt_of_cell? _ _ hw228_0; first | rwa [add_block] at this | exact this) GW229.out))) _).trans (((cell_far (p := ⟨gb229, _, none⟩) (by first | exact Nat.ne_of_lt (Nat.lt_of_lt_of_le (by have := World.block_lt_of_cell? _ _ hw228_0; first | rwa [add_block] at this | exact this) GW229.out) | (rw [add_block]; exact Nat.ne_of_lt (Nat.lt_of_lt_of_le (by have := World.block_lt_of_cell? _ _ hw228_0; first | rwa [add_block] at this | exact this) GW229.out)) | (show (Addr.add _ _).block ≠ _; rw [add_block]; exact Nat.ne_of_lt (Nat.lt_of_lt_of_le (by have := World.block_lt_of_cell? _ _ hw228_0; first | rwa [add_block] at this | exact this) GW229.out)) | (dsimp only; exact Nat.ne_of_lt (Nat.lt_of_lt_of_le (by have := World.block_lt_of_cell? _ _ hw228_0; first | rwa [add_block] at this | exact this) GW229.out))) _).trans (((cell_far (p := ⟨gb229, _, none⟩) (by first | exact Nat.ne_of_lt (Nat.lt_of_lt_of_le (by have := World.block_lt_of_cell? _ _ hw228_0; first | rwa [add_block] at this | exact this) GW229.out) | (rw [add_block]; exact Nat.ne_of_lt (Nat.lt_of_lt_of_le (by have := World.block_lt_of_cell? _ _ hw228_0; first | rwa [add_block] at this | exact this) GW229.out)) | (show (Addr.add _ _).block ≠ _; rw [add_block]; exact Nat.ne_of_lt (Nat.lt_of_lt_of_le (by have := World.block_lt_of_cell? _ _ hw228_0; first | rwa [add_block] at this | exact this) GW229.out)) | (dsimp only; exact Nat.ne_of_lt (Nat.lt_of_lt_of_le (by have := World.block_lt_of_cell? _ _ hw228_0; first | rwa [add_block] at this | exact this) GW229.out))) _).trans (((cell_far (p := ⟨gb229, _, none⟩) (by first | exact Nat.ne_of_lt (Nat.lt_of_lt_of_le (by have := World.block_lt_of_cell? _ _ hw228_0; first | rwa [add_block] at this | exact this) GW229.out) | (rw [add_block]; exact Nat.ne_of_lt (Nat.lt_of_lt_of_le (by have := World.block_lt_of_cell? _ _ hw228_0; first | rwa [add_block] at this | exact this) GW229.out)) | (show (Addr.add _ _).block ≠ _; rw [add_block]; exact Nat.ne_of_lt (Nat.lt_of_lt_of_le (by have := World.block_lt_of_cell? _ _ hw228_0; first | rwa [add_block] at this | exact this) GW229.out)) | (dsimp only; exact Nat.ne_of_lt (Nat.lt_of_lt_of_le (by have := World.block_lt_of_cell? _ _ hw228_0; first | rwa [add_block] at this | exact this) GW229.out))) _).trans (((cell_far (p := ⟨gb229, _, none⟩) (by first | exact Nat.ne_of_lt (Nat.lt_of_lt_of_le (by have := World.block_lt_of_cell? _ _ hw228_0; first | rwa [add_block] at this | exact this) GW229.out) | (rw [add_block]; exact Nat.ne_of_lt (Nat.lt_of_lt_of_le (by have := World.block_lt_of_cell? _ _ hw228_0; first | rwa [add_block] at this | exact this) GW229.out)) | (show (Addr.add _ _).block ≠ _; rw [add_block]; exact Nat.ne_of_lt (Nat.lt_of_lt_of_le (by have := World.block_lt_of_cell? _ _ hw228_0; first | rwa [add_block] at this | exact this) GW229.out)) | (dsimp only; exact Nat.ne_of_lt (Nat.lt_of_lt_of_le (by have := World.block_lt_of_cell? _ _ hw228_0; first | rwa [add_block] at this | exact this) GW229.out))) _).trans (hHeld.2.2.1)))))))))), ((cell_far (p := ⟨gb229, _, none⟩) (by first | exact Nat.ne_of_lt (Nat.lt_of_lt_of_le (by have := World.block_lt_of_cell? _ _ hw228_1; first | rwa [add_block] at this | exact this) GW229.out) | (rw [add_block]; exact Nat.ne_of_lt (Nat.lt_of_lt_of_le (by have := World.block_lt_of_cell? _ _ hw228_1; first | rwa [add_block] at this | exact this) GW229.out)) | (show (Addr.add _ _).block ≠ _; rw [add_block]; exact Nat.ne_of_lt (Nat.lt_of_lt_of_le (by have := World.block_lt_of_cell? _ _ hw228_1; first | rwa [add_block] at this | exact this) GW229.out)) | (dsimp only; exact Nat.ne_of_lt (Nat.lt_of_lt_of_le (by have := World.block_lt_of_cell? _ _ hw228_1; first | rwa [add_block] at this | exact this) GW229.out))) _).trans (((cell_far (p := ⟨gb229, _, none⟩) (by first | exact Nat.ne_of_lt (Nat.lt_of_lt_of_le (by have := World.block_lt_of_cell? _ _ hw228_1; first | rwa [add_block] at this | exact this) GW229.out) | (rw [add_block]; exact Nat.ne_of_lt (Nat.lt_of_lt_of_le (by have := World.block_lt_of_cell? _ _ hw228_1; first | rwa [add_block] at this | exact this) GW229.out)) | (show (Addr.add _ _).block ≠ _; rw [add_block]; exact Nat.ne_of_lt (Nat.lt_of_lt_of_le (by have := World.block_lt_of_cell? _ _ hw228_1; first | rwa [add_block] at this | exact this) GW229.out)) | (dsimp only; exact Nat.ne_of_lt (Nat.lt_of_lt_of_le (by have := World.block_lt_of_cell? _ _ hw228_1; first | rwa [add_block] at this | exact this) GW229.out))) _).trans (((cell_far (p := ⟨gb229, _, none⟩) (by first | exact Nat.ne_of_lt (Nat.lt_of_lt_of_le (by have := World.block_lt_of_cell? _ _ hw228_1; first | rwa [add_block] at this | exact this) GW229.out) | (rw [add_block]; exact Nat.ne_of_lt (Nat.lt_of_lt_of_le (by have := World.block_lt_of_cell? _ _ hw228_1; first | rwa [add_block] at this | exact this) GW229.out)) | (show (Addr.add _ _).block ≠ _; rw [add_block]; exact Nat.ne_of_lt (Nat.lt_of_lt_of_le (by have := World.block_lt_of_cell? _ _ hw228_1; first | rwa [add_block] at this | exact this) GW229.out)) | (dsimp only; exact Nat.ne_of_lt (Nat.lt_of_lt_of_le (by have := World.block_lt_of_cell? _ _ hw228_1; first | rwa [add_block] at this | exact this) GW229.out))) _).trans (((cell_far (p := ⟨gb229, _, none⟩) (by first | exact Nat.ne_of_lt (Nat.lt_of_lt_of_le (by have := World.block_lt_of_cell? _ _ hw228_1; first | rwa [add_block] at this | exact this) GW229.out) | (rw [add_block]; exact Nat.ne_of_lt (Nat.lt_of_lt_of_le (by have := World.block_lt_of_cell? _ _ hw228_1; first | rwa [add_block] at this | exact this) GW229.out)) | (show (Addr.add _ _).block ≠ _; rw [add_block]; exact Nat.ne_of_lt (Nat.lt_of_lt_of_le (by have := World.block_lt_of_cell? _ _ hw228_1; first | rwa [add_block] at this | exact this) GW229.out)) | (dsimp only; exact Nat.ne_of_lt (Nat.lt_of_lt_of_le (by have := World.block_lt_of_cell? _ _ hw228_1; first | rwa [add_block] at this | exact this) GW229.out))) _).trans (((cell_far (p := ⟨gb229, _, none⟩) (by first | exact Nat.ne_of_lt (Nat.lt_of_lt_of_le (by have := World.block_lt_of_cell? _ _ hw228_1; first | rwa [add_block] at this | exact this) GW229.out) | (rw [add_block]; exact Nat.ne_of_lt (Nat.lt_of_lt_of_le (by have := World.block_lt_of_cell? _ _ hw228_1; first | rwa [add_block] at this | exact this) GW229.out)) | (show (Addr.add _ _).block ≠ _; rw [add_block]; exact Nat.ne_of_lt (Nat.lt_of_lt_of_le (by have := World.block_lt_of_cell? _ _ hw228_1; first | rwa [add_block] at this | exact this) GW229.out)) | (dsimp only; exact Nat.ne_of_lt (Nat.lt_of_lt_of_le (by have := World.block_lt_of_cell? _ _ hw228_1; first | rwa [add_block] at this | exact this) GW229.out))) _).trans (hHeld.2.2.2.1)))))))))), ((cell_far (p := ⟨gb229, _, none⟩) (by first | exact Nat.ne_of_lt (Nat.lt_of_lt_of_le (by have := World.block_lt_of_cell? _ _ hw228_2; first | rwa [add_block] at this | exact this) GW229.out) | (rw [add_block]; exact Nat.ne_of_lt (Nat.lt_of_lt_of_le (by have := World.block_lt_of_cell? _ _ hw228_2; first | rwa [add_block] at this | exact this) GW229.out)) | (show (Addr.add _ _).block ≠ _; rw [add_block]; exact Nat.ne_of_lt (Nat.lt_of_lt_of_le (by have := World.block_lt_of_cell? _ _ hw228_2; first | rwa [add_block] at this | exact this) GW229.out)) | (dsimp only; exact Nat.ne_of_lt (Nat.lt_of_lt_of_le (by have := World.block_lt_of_cell? _ _ hw228_2; first | rwa [add_block] at this | exact this) GW229.out))) _).trans (((cell_far (p := ⟨gb229, _, none⟩) (by first | exact Nat.ne_of_lt (Nat.lt_of_lt_of_le (by have := World.block_lt_of_cell? _ _ hw228_2; first | rwa [add_block] at this | exact this) GW229.out) | (rw [add_block]; exact Nat.ne_of_lt (Nat.lt_of_lt_of_le (by have := World.block_lt_of_cell? _ _ hw228_2; first | rwa [add_block] at this | exact this) GW229.out)) | (show (Addr.add _ _).block ≠ _; rw [add_block]; exact Nat.ne_of_lt (Nat.lt_of_lt_of_le (by have := World.block_lt_of_cell? _ _ hw228_2; first | rwa [add_block] at this | exact this) GW229.out)) | (dsimp only; exact Nat.ne_of_lt (Nat.lt_of_lt_of_le (by have := World.block_lt_of_cell? _ _ hw228_2; first | rwa [add_block] at this | exact this) GW229.out))) _).trans (((cell_far (p := ⟨gb229, _, none⟩) (by first | exact Nat.ne_of_lt (Nat.lt_of_lt_of_le (by have := World.block_lt_of_cell? _ _ hw228_2; first | rwa [add_block] at this | exact this) GW229.out) | (rw [add_block]; exact Nat.ne_of_lt (Nat.lt_of_lt_of_le (by have := World.block_lt_of_cell? _ _ hw228_2; first | rwa [add_block] at this | exact this) GW229.out)) | (show (Addr.add _ _).block ≠ _; rw [add_block]; exact Nat.ne_of_lt (Nat.lt_of_lt_of_le (by have := World.block_lt_of_cell? _ _ hw228_2; first | rwa [add_block] at this | exact this) GW229.out)) | (dsimp only; exact Nat.ne_of_lt (Nat.lt_of_lt_of_le (by have := World.block_lt_of_cell? _ _ hw228_2; first | rwa [add_block] at this | exact this) GW229.out))) _).trans (((cell_far (p := ⟨gb229, _, none⟩) (by first | exact Nat.ne_of_lt (Nat.lt_of_lt_of_le (by have := World.block_lt_of_cell? _ _ hw228_2; first | rwa [add_block] at this | exact this) GW229.out) | (rw [add_block]; exact Nat.ne_of_lt (Nat.lt_of_lt_of_le (by have := World.block_lt_of_cell? _ _ hw228_2; first | rwa [add_block] at this | exact this) GW229.out)) | (show (Addr.add _ _).block ≠ _; rw [add_block]; exact Nat.ne_of_lt (Nat.lt_of_lt_of_le (by have := World.block_lt_of_cell? _ _ hw228_2; first | rwa [add_block] at this | exact this) GW229.out)) | (dsimp only; exact Nat.ne_of_lt (Nat.lt_of_lt_of_le (by have := World.block_lt_of_cell? _ _ hw228_2; first | rwa [add_block] at this | exact this) GW229.out))) _).trans (((cell_far (p := ⟨gb229, _, none⟩) (by first | exact Nat.ne_of_lt (Nat.lt_of_lt_of_le (by have := World.block_lt_of_cell? _ _ hw228_2; first | rwa [add_block] at this | exact this) GW229.out) | (rw [add_block]; exact Nat.ne_of_lt (Nat.lt_of_lt_of_le (by have := World.block_lt_of_cell? _ _ hw228_2; first | rwa [add_block] at this | exact this) GW229.out)) | (show (Addr.add _ _).block ≠ _; rw [add_block]; exact Nat.ne_of_lt (Nat.lt_of_lt_of_le (by have := World.block_lt_of_cell? _ _ hw228_2; first | rwa [add_block] at this | exact this) GW229.out)) | (dsimp only; exact Nat.ne_of_lt (Nat.lt_of_lt_of_le (by have := World.block_lt_of_cell? _ _ hw228_2; first | rwa [add_block] at this | exact this) GW229.out))) _).trans (hHeld.2.2.2.2.1)))))))))), ((cell_far (p := ⟨gb229, _, none⟩) (by first | exact Nat.ne_of_lt (Nat.lt_of_lt_of_le (by have := World.block_lt_of_cell? _ _ hw228_3; first | rwa [add_block] at this | exact this) GW229.out) | (rw [add_block]; exact Nat.ne_of_lt (Nat.lt_of_lt_of_le (by have := World.block_lt_of_cell? _ _ hw228_3; first | rwa [add_block] at this | exact this) GW229.out)) | (show (Addr.add _ _).block ≠ _; rw [add_block]; exact Nat.ne_of_lt (Nat.lt_of_lt_of_le (by have := World.block_lt_of_cell? _ _ hw228_3; first | rwa [add_block] at this | exact this) GW229.out)) | (dsimp only; exact Nat.ne_of_lt (Nat.lt_of_lt_of_le (by have := World.block_lt_of_cell? _ _ hw228_3; first | rwa [add_block] at this | exact this) GW229.out))) _).trans (((cell_far (p := ⟨gb229, _, none⟩) (by first | exact Nat.ne_of_lt (Nat.lt_of_lt_of_le (by have := World.block_lt_of_cell? _ _ hw228_3; first | rwa [add_block] at this | exact this) GW229.out) | (rw [add_block]; exact Nat.ne_of_lt (Nat.lt_of_lt_of_le (by have := World.block_lt_of_cell? _ _ hw228_3; first | rwa [add_block] at this | exact this) GW229.out)) | (show (Addr.add _ _).block ≠ _; rw [add_block]; exact Nat.ne_of_lt (Nat.lt_of_lt_of_le (by have := World.block_lt_of_cell? _ _ hw228_3; first | rwa [add_block] at this | exact this) GW229.out)) | (dsimp only; exact Nat.ne_of_lt (Nat.lt_of_lt_of_le (by have := World.block_lt_of_cell? _ _ hw228_3; first | rwa [add_block] at this | exact this) GW229.out))) _).trans (((cell_far (p := ⟨gb229, _, none⟩) (by first | exact Nat.ne_of_lt (Nat.lt_of_lt_of_le (by have := World.block_lt_of_cell? _ _ hw228_3; first | rwa [add_block] at this | exact this) GW229.out) | (rw [add_block]; exact Nat.ne_of_lt (Nat.lt_of_lt_of_le (by have := World.block_lt_of_cell? _ _ hw228_3; first | rwa [add_block] at this | exact this) GW229.out)) | (show (Addr.add _ _).block ≠ _; rw [add_block]; exact Nat.ne_of_lt (Nat.lt_of_lt_of_le (by have := World.block_lt_of_cell? _ _ hw228_3; first | rwa [add_block] at this | exact this) GW229.out)) | (dsimp only; exact Nat.ne_of_lt (Nat.lt_of_lt_of_le (by have := World.block_lt_of_cell? _ _ hw228_3; first | rwa [add_block] at this | exact this) GW229.out))) _).trans (((cell_far (p := ⟨gb229, _, none⟩) (by first | exact Nat.ne_of_lt (Nat.lt_of_lt_of_le (by have := World.block_lt_of_cell? _ _ hw228_3; first | rwa [add_block] at this | exact this) GW229.out) | (rw [add_block]; exact Nat.ne_of_lt (Nat.lt_of_lt_of_le (by have := World.block_lt_of_cell? _ _ hw228_3; first | rwa [add_block] at this | exact this) GW229.out)) | (show (Addr.add _ _).block ≠ _; rw [add_block]; exact Nat.ne_of_lt (Nat.lt_of_lt_of_le (by have := World.block_lt_of_cell? _ _ hw228_3; first | rwa [add_block] at this | exact this) GW229.out)) | (dsimp only; exact Nat.ne_of_lt (Nat.lt_of_lt_of_le (by have := World.block_lt_of_cell? _ _ hw228_3; first | rwa [add_block] at this | exact this) GW229.out))) _).trans (((cell_far (p := ⟨gb229, _, none⟩) (by first | exact Nat.ne_of_lt (Nat.lt_of_lt_of_le (by have := World.block_lt_of_cell? _ _ hw228_3; first | rwa [add_block] at this | exact this) GW229.out) | (rw [add_block]; exact Nat.ne_of_lt (Nat.lt_of_lt_of_le (by have := World.block_lt_of_cell? _ _ hw228_3; first | rwa [add_block] at this | exact this) GW229.out)) | (show (Addr.add _ _).block ≠ _; rw [add_block]; exact Nat.ne_of_lt (Nat.lt_of_lt_of_le (by have := World.block_lt_of_cell? _ _ hw228_3; first | rwa [add_block] at this | exact this) GW229.out)) | (dsimp only; exact Nat.ne_of_lt (Nat.lt_of_lt_of_le (by have := World.block_lt_of_cell? _ _ hw228_3; first | rwa [add_block] at this | exact this) GW229.out))) _).trans (hHeld.2.2.2.2.2.1)))))))))), ((cell_far (p := ⟨gb229, _, none⟩) (by first | exact Nat.ne_of_lt (Nat.lt_of_lt_of_le (by have := World.block_lt_of_cell? _ _ hw228_4; first | rwa [add_block] at this | exact this) GW229.out) | (rw [add_block]; exact Nat.ne_of_lt (Nat.lt_of_lt_of_le (by have := World.block_lt_of_cell? _ _ hw228_4; first | rwa [add_block] at this | exact this) GW229.out)) | (show (Addr.add _ _).block ≠ _; rw [add_block]; exact Nat.ne_of_lt (Nat.lt_of_lt_of_le (by have := World.block_lt_of_cell? _ _ hw228_4; first | rwa [add_block] at this | exact this) GW229.out)) | (dsimp only; exact Nat.ne_of_lt (Nat.lt_of_lt_of_le (by have := World.block_lt_of_cell? _ _ hw228_4; first | rwa [add_block] at this | exact this) GW229.out))) _).trans (((cell_far (p := ⟨gb229, _, none⟩) (by first | exact Nat.ne_of_lt (Nat.lt_of_lt_of_le (by have := World.block_lt_of_cell? _ _ hw228_4; first | rwa [add_block] at this | exact this) GW229.out) | (rw [add_block]; exact Nat.ne_of_lt (Nat.lt_of_lt_of_le (by have := World.block_lt_of_cell? _ _ hw228_4; first | rwa [add_block] at this | exact this) GW229.out)) | (show (Addr.add _ _).block ≠ _; rw [add_block]; exact Nat.ne_of_lt (Nat.lt_of_lt_of_le (by have := World.block_lt_of_cell? _ _ hw228_4; first | rwa [add_block] at this | exact this) GW229.out)) | (dsimp only; exact Nat.ne_of_lt (Nat.lt_of_lt_of_le (by have := World.block_lt_of_cell? _ _ hw228_4; first | rwa [add_block] at this | exact this) GW229.out))) _).trans (((cell_far (p := ⟨gb229, _, none⟩) (by first | exact Nat.ne_of_lt (Nat.lt_of_lt_of_le (by have := World.block_lt_of_cell? _ _ hw228_4; first | rwa [add_block] at this | exact this) GW229.out) | (rw [add_block]; exact Nat.ne_of_lt (Nat.lt_of_lt_of_le (by have := World.block_lt_of_cell? _ _ hw228_4; first | rwa [add_block] at this | exact this) GW229.out)) | (show (Addr.add _ _).block ≠ _; rw [add_block]; exact Nat.ne_of_lt (Nat.lt_of_lt_of_le (by have := World.block_lt_of_cell? _ _ hw228_4; first | rwa [add_block] at this | exact this) GW229.out)) | (dsimp only; exact Nat.ne_of_lt (Nat.lt_of_lt_of_le (by have := World.block_lt_of_cell? _ _ hw228_4; first | rwa [add_block] at this | exact this) GW229.out))) _).trans (((cell_far (p := ⟨gb229, _, none⟩) (by first | exact Nat.ne_of_lt (Nat.lt_of_lt_of_le (by have := World.block_lt_of_cell? _ _ hw228_4; first | rwa [add_block] at this | exact this) GW229.out) | (rw [add_block]; exact Nat.ne_of_lt (Nat.lt_of_lt_of_le (by have := World.block_lt_of_cell? _ _ hw228_4; first | rwa [add_block] at this | exact this) GW229.out)) | (show (Addr.add _ _).block ≠ _; rw [add_block]; exact Nat.ne_of_lt (Nat.lt_of_lt_of_le (by have := World.block_lt_of_cell? _ _ hw228_4; first | rwa [add_block] at this | exact this) GW229.out)) | (dsimp only; exact Nat.ne_of_lt (Nat.lt_of_lt_of_le (by have := World.block_lt_of_cell? _ _ hw228_4; first | rwa [add_block] at this | exact this) GW229.out))) _).trans (((cell_far (p := ⟨gb229, _, none⟩) (by first | exact Nat.ne_of_lt (Nat.lt_of_lt_of_le (by have := World.block_lt_of_cell? _ _ hw228_4; first | rwa [add_block] at this | exact this) GW229.out) | (rw [add_block]; exact Nat.ne_of_lt (Nat.lt_of_lt_of_le (by have := World.block_lt_of_cell? _ _ hw228_4; first | rwa [add_block] at this | exact this) GW229.out)) | (show (Addr.add _ _).block ≠ _; rw [add_block]; exact Nat.ne_of_lt (Nat.lt_of_lt_of_le (by have := World.block_lt_of_cell? _ _ hw228_4; first | rwa [add_block] at this | exact this) GW229.out)) | (dsimp only; exact Nat.ne_of_lt (Nat.lt_of_lt_of_le (by have := World.block_lt_of_cell? _ _ hw228_4; first | rwa [add_block] at this | exact this) GW229.out))) _).trans (hHeld.2.2.2.2.2.2))))))))))⟩ (fun hHeld => ?_)
                clear hK K
                refine done_ (done_of HT_.out (by kernel_rfl)) ?_
                have n0_ : Aside0 (Kd.R (Kd.int .i64) 3 (((((w15.setCell ⟨gb229, 0, none⟩ (.int .i64 ((rd_T118 l0_0 (rd x6_1 0)).f0))).setCell ⟨gb229, 1, none⟩ (.slice A228_1 ((rd_T118 l0_0 (rd x6_1 0)).f1).length c228_1)).setCell ⟨gb229, 2, none⟩ (.int .i64 ((rd_T118 l0_0 (rd x6_1 0)).f2))).setCell ⟨gb229, 3, none⟩ (.int .i64 ((rd_T118 l0_0 (rd x6_1 0)).f3))).setCell ⟨gb229, 4, none⟩ (.slice A228_4 ((rd_T118 l0_0 (rd x6_1 0)).f4).length c228_4)) w.heap.size (fun k_ => some k_ ≠ (.slice (some ad227) x6_1.length co13 : Value).ownBlock) u5 x5_1) := ⟨by (with_reducible repeat (first | apply Kd.R_alloc | apply Kd.R_drewN | apply Kd.R_drew)); exact Kd.R_mono (Kd.R_far (p := ⟨gb229, 4, none⟩) (Kd.R_far (p := ⟨gb229, 3, none⟩) (Kd.R_far (p := ⟨gb229, 2, none⟩) (Kd.R_far (p := ⟨gb229, 1, none⟩) (Kd.R_far (p := ⟨gb229, 0, none⟩) (Kd.R_types HO_5.out BK229.out (by decide)) (fun _ hk => hk.2) (.int .i64 ((rd_T118 l0_0 (rd x6_1 0)).f0))) (fun _ hk => hk.2) (.slice A228_1 ((rd_T118 l0_0 (rd x6_1 0)).f1).length c228_1)) (fun _ hk => hk.2) (.int .i64 ((rd_T118 l0_0 (rd x6_1 0)).f2))) (fun _ hk => hk.2) (.int .i64 ((rd_T118 l0_0 (rd x6_1 0)).f3))) (fun _ hk => hk.2) (.slice A228_4 ((rd_T118 l0_0 (rd x6_1 0)).f4).length c228_4)) (fun _ hk => hk.1)⟩
                have n1_ : Aside0 (Kd.Q (Kd.int .i64) 3 (((((w15.setCell ⟨gb229, 0, none⟩ (.int .i64 ((rd_T118 l0_0 (rd x6_1 0)).f0))).setCell ⟨gb229, 1, none⟩ (.slice A228_1 ((rd_T118 l0_0 (rd x6_1 0)).f1).length c228_1)).setCell ⟨gb229, 2, none⟩ (.int .i64 ((rd_T118 l0_0 (rd x6_1 0)).f2))).setCell ⟨gb229, 3, none⟩ (.int .i64 ((rd_T118 l0_0 (rd x6_1 0)).f3))).setCell ⟨gb229, 4, none⟩ (.slice A228_4 ((rd_T118 l0_0 (rd x6_1 0)).f4).length c228_4)) w.heap.size (fun k_ => some k_ ≠ (u5 : Value).ownBlock) (.slice (some ad227) x6_1.length co13) x6_1) := ⟨by (with_reducible repeat (first | apply Kd.Q_alloc | apply Kd.Q_drewN | apply Kd.Q_drew)); exact Kd.Q_mono (Kd.Q_far (p := ⟨gb229, 4, none⟩) (Kd.Q_far (p := ⟨gb229, 3, none⟩) (Kd.Q_far (p := ⟨gb229, 2, none⟩) (Kd.Q_far (p := ⟨gb229, 1, none⟩) (Kd.Q_far (p := ⟨gb229, 0, none⟩) (Kd.Q_types HO_6.out BK229.out (by decide)) (fun _ hk => hk.2) (.int .i64 ((rd_T118 l0_0 (rd x6_1 0)).f0))) (fun _ hk => hk.2) (.slice A228_1 ((rd_T118 l0_0 (rd x6_1 0)).f1).length c228_1)) (fun _ hk => hk.2) (.int .i64 ((rd_T118 l0_0 (rd x6_1 0)).f2))) (fun _ hk => hk.2) (.int .i64 ((rd_T118 l0_0 (rd x6_1 0)).f3))) (fun _ hk => hk.2) (.slice A228_4 ((rd_T118 l0_0 (rd x6_1 0)).f4).length c228_4)) (fun _ hk => hk.1)⟩
                have n2_ : Aside0 ((((((w15.setCell ⟨gb229, 0, none⟩ (.int .i64 ((rd_T118 l0_0 (rd x6_1 0)).f0))).setCell ⟨gb229, 1, none⟩ (.slice A228_1 ((rd_T118 l0_0 (rd x6_1 0)).f1).length c228_1)).setCell ⟨gb229, 2, none⟩ (.int .i64 ((rd_T118 l0_0 (rd x6_1 0)).f2))).setCell ⟨gb229, 3, none⟩ (.int .i64 ((rd_T118 l0_0 (rd x6_1 0)).f3))).setCell ⟨gb229, 4, none⟩ (.slice A228_4 ((rd_T118 l0_0 (rd x6_1 0)).f4).length c228_4)).heap[gb220]? = some (.cells #[.slice (some ad228) l0_0.length c0_0] 41 (0, 0))) := ⟨by (with_reducible repeat (first | refine blk_drewN ?_ _ | refine blk_drew ?_ | refine blk_alloc ?_ _)); refine blk_far ?_ NB220_229.out _; (with_reducible repeat (first | refine blk_drewN ?_ _ | refine blk_drew ?_ | refine blk_alloc ?_ _)); refine blk_far ?_ NB220_229.out _; (with_reducible repeat (first | refine blk_drewN ?_ _ | refine blk_drew ?_ | refine blk_alloc ?_ _)); refine blk_far ?_ NB220_229.out _; (with_reducible repeat (first | refine blk_drewN ?_ _ | refine blk_drew ?_ | refine blk_alloc ?_ _)); refine blk_far ?_ NB220_229.out _; (with_reducible repeat (first | refine blk_drewN ?_ _ | refine blk_drew ?_ | refine blk_alloc ?_ _)); refine blk_far ?_ NB220_229.out _; (with_reducible repeat (first | refine blk_drewN ?_ _ | refine blk_drew ?_ | refine blk_alloc ?_ _)); exact BK220.out⟩
                have n3_ : Aside0 ((((((w15.setCell ⟨gb229, 0, none⟩ (.int .i64 ((rd_T118 l0_0 (rd x6_1 0)).f0))).setCell ⟨gb229, 1, none⟩ (.slice A228_1 ((rd_T118 l0_0 (rd x6_1 0)).f1).length c228_1)).setCell ⟨gb229, 2, none⟩ (.int .i64 ((rd_T118 l0_0 (rd x6_1 0)).f2))).setCell ⟨gb229, 3, none⟩ (.int .i64 ((rd_T118 l0_0 (rd x6_1 0)).f3))).setCell ⟨gb229, 4, none⟩ (.slice A228_4 ((rd_T118 l0_0 (rd x6_1 0)).f4).length c228_4)).heap[gb229]? = some (.cells #[.int .i64 ((rd_T118 l0_0 (rd x6_1 0)).f0), .slice A228_1 ((rd_T118 l0_0 (rd x6_1 0)).f1).length c228_1, .int .i64 ((rd_T118 l0_0 (rd x6_1 0)).f2), .int .i64 ((rd_T118 l0_0 (rd x6_1 0)).f3), .slice A228_4 ((rd_T118 l0_0 (rd x6_1 0)).f4).length c228_4] 118 (0, 0))) := ⟨by (with_reducible repeat (first | refine blk_drewN ?_ _ | refine blk_drew ?_ | refine blk_alloc ?_ _)); refine blk_put (cs := #[.int .i64 ((rd_T118 l0_0 (rd x6_1 0)).f0), .slice A228_1 ((rd_T118 l0_0 (rd x6_1 0)).f1).length c228_1, .int .i64 ((rd_T118 l0_0 (rd x6_1 0)).f2), .int .i64 ((rd_T118 l0_0 (rd x6_1 0)).f3), .slice none 0 0]) ?_ 4 _ rfl; (with_reducible repeat (first | refine blk_drewN ?_ _ | refine blk_drew ?_ | refine blk_alloc ?_ _)); refine blk_put (cs := #[.int .i64 ((rd_T118 l0_0 (rd x6_1 0)).f0), .slice A228_1 ((rd_T118 l0_0 (rd x6_1 0)).f1).length c228_1, .int .i64 ((rd_T118 l0_0 (rd x6_1 0)).f2), .int .i64 0, .slice none 0 0]) ?_ 3 _ rfl; (with_reducible repeat (first | refine blk_drewN ?_ _ | refine blk_drew ?_ | refine blk_alloc ?_ _)); refine blk_put (cs := #[.int .i64 ((rd_T118 l0_0 (rd x6_1 0)).f0), .slice A228_1 ((rd_T118 l0_0 (rd x6_1 0)).f1).length c228_1, .int .i64 0, .int .i64 0, .slice none 0 0]) ?_ 2 _ rfl; (with_reducible repeat (first | refine blk_drewN ?_ _ | refine blk_drew ?_ | refine blk_alloc ?_ _)); refine blk_put (cs := #[.int .i64 ((rd_T118 l0_0 (rd x6_1 0)).f0), .slice none 0 0, .int .i64 0, .int .i64 0, .slice none 0 0]) ?_ 1 _ rfl; (with_reducible repeat (first | refine blk_drewN ?_ _ | refine blk_drew ?_ | refine blk_alloc ?_ _)); refine blk_put (cs := #[.int .i64 0, .slice none 0 0, .int .i64 0, .int .i64 0, .slice none 0 0]) ?_ 0 _ rfl; (with_reducible repeat (first | refine blk_drewN ?_ _ | refine blk_drew ?_ | refine blk_alloc ?_ _)); exact BK229.out⟩
                have n4_ : Aside0 (Below w.heap.size w (((((w15.setCell ⟨gb229, 0, none⟩ (.int .i64 ((rd_T118 l0_0 (rd x6_1 0)).f0))).setCell ⟨gb229, 1, none⟩ (.slice A228_1 ((rd_T118 l0_0 (rd x6_1 0)).f1).length c228_1)).setCell ⟨gb229, 2, none⟩ (.int .i64 ((rd_T118 l0_0 (rd x6_1 0)).f2))).setCell ⟨gb229, 3, none⟩ (.int .i64 ((rd_T118 l0_0 (rd x6_1 0)).f3))).setCell ⟨gb229, 4, none⟩ (.slice A228_4 ((rd_T118 l0_0 (rd x6_1 0)).f4).length c228_4))) := ⟨by repeat (first | (with_reducible first | exact HB.out | apply below_alloc | apply pw_below_drewN | apply below_drew1 | refine below_set ?_ GE220.out | refine below_set ?_ GE229.out) | exact HB.out)⟩
                (try clear HO_5)
                (try clear HO_6)
                (try clear BK220)
                (try clear BK229)
                (try clear HB)
                generalize (((((w15.setCell ⟨gb229, 0, none⟩ (.int .i64 ((rd_T118 l0_0 (rd x6_1 0)).f0))).setCell ⟨gb229, 1, none⟩ (.slice A228_1 ((rd_T118 l0_0 (rd x6_1 0)).f1).length c228_1)).setCell ⟨gb229, 2, none⟩ (.int .i64 ((rd_T118 l0_0 (rd x6_1 0)).f2))).setCell ⟨gb229, 3, none⟩ (.int .i64 ((rd_T118 l0_0 (rd x6_1 0)).f3))).setCell ⟨gb229, 4, none⟩ (.slice A228_4 ((rd_T118 l0_0 (rd x6_1 0)).f4).length c228_4)) = w21 at n0_ n1_ n2_ n3_ n4_ ⊢
                have HO_5 := n0_
                have HO_6 := n1_
                have BK220 := n2_
                have BK229 := n3_
                have HB := n4_
                clear n0_ n1_ n2_ n3_ n4_
                have q22 : (1 : Int) ≤ ((x6_1.length : Int) : Int) := of_decide_eq_true (by first | (with_reducible assumption) | assumption)
                obtain ⟨i022, hi022, _, hsz22, _⟩ := info_parts info3
                have hcut22 := cut_from (P := Try.prog) 30 3 .i64 Try.underlying30 hi022 1 hsz22 (some ad227) x6_1.length co13 1 (by omega) q22
                have hr22 := Kd.Q_drop (k := (1 : Int).toNat) HO_6.out (by omega)
                obtain ⟨A22, hA22⟩ : ∃ A1, A1 = (if co13 = (1 : Int).toNat then (some ad227) else ((some ad227) : Option Addr).map (·.add ((1 : Int).toNat * 1))) := ⟨_, rfl⟩
                obtain ⟨c22, hc22⟩ : ∃ c1, c1 = co13 - (1 : Int).toNat := ⟨_, rfl⟩
                have hy22 : y230.length = x6_1.length - (1 : Int).toNat := (by rw [Ny230.out, List.length_drop])
                rw [← Ny230.out] at hr22
                rw [← hy22, ← hA22, ← hc22] at hcut22
                replace hr22 : Kd.Q (Kd.int .i64) 3 w21 w.heap.size (fun k_ => some k_ ≠ (u5 : Value).ownBlock) (.slice A22 y230.length c22) y230 := (by rw [hA22, hc22, hy22]; exact hr22)
                have HE22 : Aside0 ((Value.slice A22 y230.length c22).ownBlock = (.slice (some ad227) x6_1.length co13 : Value).ownBlock) := ⟨by rw [hA22]; split <;> (cases ((some ad227) : Option Addr) <;> rfl)⟩
                clear hy22 hi022 hsz22 HO_6 hA22 hc22
                have HO232 := Aside0.mk hr22
                clear hr22
                replace q22 := eq_true q22
                have n_ := Aside0.mk (Kd.R_mono (ok' := fun k_ => some k_ ≠ (.slice A22 y230.length c22 : Value).ownBlock) HO_5.out (fun k_ hk => (by rw [HE22.out]; exact hk)))
                clear HO_5
                have HO_5 := n_
                clear n_
                have hnb23 := NB229_220.out
                have hnc23 := NB220_229.out
                have hcz24_0 : w21.cell? ⟨gb229, 0, none⟩ = some (.int .i64 ((rd_T118 l0_0 (rd x6_1 0)).f0)) := (blk_cell BK229.out 0).trans rfl
                have hcz24_1 : w21.cell? ⟨gb229, 1, none⟩ = some (.slice A228_1 ((rd_T118 l0_0 (rd x6_1 0)).f1).length c228_1) := (blk_cell BK229.out 1).trans rfl
                have hcz24_2 : w21.cell? ⟨gb229, 2, none⟩ = some (.int .i64 ((rd_T118 l0_0 (rd x6_1 0)).f2)) := (blk_cell BK229.out 2).trans rfl
                have hcz24_3 : w21.cell? ⟨gb229, 3, none⟩ = some (.int .i64 ((rd_T118 l0_0 (rd x6_1 0)).f3)) := (blk_cell BK229.out 3).trans rfl
                have hcz24_4 : w21.cell? ⟨gb229, 4, none⟩ = some (.slice A228_4 ((rd_T118 l0_0 (rd x6_1 0)).f4).length c228_4) := (blk_cell BK229.out 4).trans rfl
                have hfz24_0 := blk_frozen BK229.out 0
                have hfz24_1 := blk_frozen BK229.out 1
                have hfz24_2 := blk_frozen BK229.out 2
                have hfz24_3 := blk_frozen BK229.out 3
                have hfz24_4 := blk_frozen BK229.out 4
                try go_wp2
                go_loopg [5, 6, 30] k1 (fun kq v5 v6 v30 w' => ∃ (x5_2 : List Int) (x6_2 : List Int) (x30_2 : Int), v30 = .int .i64 x30_2 ∧ Aside0 (impl_comeTo.l1 kq x5_2 x6_2 ((rd_T118 l0_0 (rd x6_1 0)).f4) (((rd_T118 l0_0 (rd x6_1 0)).f4).length : Int) x30_2 l0_0 = some r) ∧ Aside0 (kq ≤ k1) ∧ Aside0 (Kd.R (Kd.int .i64) 3 w' w.heap.size (fun k_ => some k_ ≠ (v6 : Value).ownBlock) v5 x5_2) ∧ Aside0 (Kd.Q (Kd.int .i64) 3 w' w.heap.size (fun k_ => some k_ ≠ (v5 : Value).ownBlock) v6 x6_2) ∧ Aside0 (w'.heap[gb220]? = some (.cells #[(.slice (some ad228) l0_0.length c0_0)] 41 (0, 0))) ∧ Aside0 (w'.heap[gb229]? = some (.cells #[.int .i64 ((rd_T118 l0_0 (rd x6_1 0)).f0), (.slice A228_1 ((rd_T118 l0_0 (rd x6_1 0)).f1).length c228_1), .int .i64 ((rd_T118 l0_0 (rd x6_1 0)).f2), .int .i64 ((rd_T118 l0_0 (rd x6_1 0)).f3), (.slice A228_4 ((rd_T118 l0_0 (rd x6_1 0)).f4).length c228_4)] 118 (0, 0))) ∧ Aside0 (Below w.heap.size w w'))
                case atStart => exact ⟨(x5_1), (y230), (0), (by first | rfl | (simp; done) | (simp [*]; done) | (simp [isE0, isE1]; done)), H', ⟨Nat.le_refl _⟩, ⟨by (with_reducible repeat (first | apply Kd.R_alloc | apply Kd.R_drewN | apply Kd.R_drew)); exact HO_5.out⟩, ⟨by (with_reducible repeat (first | apply Kd.Q_alloc | apply Kd.Q_drewN | apply Kd.Q_drew)); exact HO232.out⟩, ⟨by (with_reducible repeat (first | refine blk_drewN ?_ _ | refine blk_drew ?_ | refine blk_alloc ?_ _)); exact BK220.out⟩, ⟨by (with_reducible repeat (first | refine blk_drewN ?_ _ | refine blk_drew ?_ | refine blk_alloc ?_ _)); exact BK229.out⟩, ⟨by repeat (first | (with_reducible first | exact HB.out | apply below_alloc | apply pw_below_drewN | apply below_drew1 | refine below_set ?_ GE220.out | refine below_set ?_ GE229.out) | exact HB.out)⟩⟩
                case round =>
                  clear H'
                  try clear c1
                  try clear c2
                  try clear p2
                  try clear q2
                  try clear hx2
                  try clear qi2
                  try clear c7
                  try clear c8
                  try clear c8b0
                  try clear c8b1
                  try clear c9
                  try clear c9b0
                  try clear c9b1
                  try clear c10
                  try clear c10b0
                  try clear c11
                  try clear c11b0
                  try clear c12
                  try clear c12b0
                  try clear c12b1
                  try clear c22
                  try clear p22
                  try clear q22
                  try clear hx22
                  try clear qi22
                  try clear c23
                  try clear hcz24_0
                  try clear hcz24_1
                  try clear hcz24_2
                  try clear hcz24_3
                  try clear hcz24_4
                  try clear hfz24_0
                  try clear hfz24_1
                  try clear hfz24_2
                  try clear hfz24_3
                  try clear hfz24_4
                  try clear hx227_0
                  try clear hx228_0
                  try clear hx228_1
                  try clear hx228_2
                  try clear hx228_3
                  try clear hx228_4
                  try clear p2
                  try clear p227
                  try clear p228
                  try clear q22
                  try clear q227
                  try clear q228
                  obtain ⟨x5_2, x6_2, x30_2, rfl, HA, HK2, HO_5, HO_6, BK220, BK229, HB⟩ := hrel
                  cases gk with
                  | zero => exact absurd HA.out (by simp [impl_comeTo.l1])
                  | succ k2 =>
                    have H := HA.out
                    clear HA
                    simp only [impl_comeTo.l1] at H
                    by_cases c25 : x30_2 < (((rd_T118 l0_0 (rd x6_1 0)).f4).length : Int)
                    · rw [if_pos c25] at H
                      have c25b0 : decide (x30_2 < (((rd_T118 l0_0 (rd x6_1 0)).f4).length : Int)) = true := decide_eq_true c25
                      clear c25
                      by_cases c26 : 0 ≤ x30_2
                      · rw [if_pos c26] at H
                        have c26b0 : decide (0 ≤ x30_2) = true := decide_eq_true c26
                        clear c26
                        by_cases c27 : x30_2 < (((rd_T118 l0_0 (rd x6_1 0)).f4).length : Int)
                        · rw [if_pos c27] at H
                          have c27b0 : decide (x30_2 < (((rd_T118 l0_0 (rd x6_1 0)).f4).length : Int)) = true := decide_eq_true c27
                          clear c27
                          have H' := Aside0.mk H
                          clear H
                          have p233 : 0 ≤ (x30_2 : Int) := of_decide_eq_true (by first | (with_reducible assumption) | assumption)
                          have q233 : x30_2 < (((rd_T118 l0_0 (rd x6_1 0)).f4).length : Int) := of_decide_eq_true (by first | (with_reducible assumption) | assumption)
                          obtain ⟨ad233, A233_1, c233_1, e233, hx233_0, hx233_1, hl233_1, hi233_1⟩ := at_T131 HR228_4.out x30_2 p233 q233
                          cases e233
                          replace hx233_0 := (HB.out.cell (World.block_lt_of_cell? w _ hx233_0)).trans hx233_0
                          replace hx233_1 := (HB.out.cell (World.block_lt_of_cell? w _ hx233_1)).trans hx233_1
                          have HR233_1 := Aside0.mk hi233_1
                          have HC233_1 := Aside0.mk hl233_1
                          clear hi233_1 hl233_1
                          replace p233 := eq_true p233
                          replace q233 := eq_true q233
                          go_wp2_with (first | ((with_reducible refine gate_dst (N := 9) rfl ?_); refine box_event ?hg (N := 9) ?hd (cs := #[.int .i64 0, .slice none 0 0]) (t := 131) ?hr ?_; (case hd => rfl); (case hg => rfl); (case hr => first | (go_simp; done) | (go_simp; rfl)); intro gb234 hg w28 hbox hb; have n0_ := Aside0.mk (Kd.R_below (by (with_reducible repeat (first | apply Kd.R_alloc | apply Kd.R_drewN | apply Kd.R_drew)); exact HO_5.out) hb); have n1_ := Aside0.mk (Kd.Q_below (by (with_reducible repeat (first | apply Kd.Q_alloc | apply Kd.Q_drewN | apply Kd.Q_drew)); exact HO_6.out) hb); have n2_ := Aside0.mk (blk_below (g := gb220) (o := .cells #[.slice (some ad228) l0_0.length c0_0] 41 (0, 0)) (by (with_reducible repeat (first | refine blk_drewN ?_ _ | refine blk_drew ?_ | refine blk_alloc ?_ _)); exact BK220.out) hb); have n3_ := Aside0.mk (blk_below (g := gb229) (o := .cells #[.int .i64 ((rd_T118 l0_0 (rd x6_1 0)).f0), .slice A228_1 ((rd_T118 l0_0 (rd x6_1 0)).f1).length c228_1, .int .i64 ((rd_T118 l0_0 (rd x6_1 0)).f2), .int .i64 ((rd_T118 l0_0 (rd x6_1 0)).f3), .slice (some ad233) ((rd_T118 l0_0 (rd x6_1 0)).f4).length c228_4] 118 (0, 0)) (by (with_reducible repeat (first | refine blk_drewN ?_ _ | refine blk_drew ?_ | refine blk_alloc ?_ _)); exact BK229.out) hb); have n4_ := Aside0.mk (below_step (by repeat (first | (with_reducible first | exact HB.out | apply below_alloc | apply pw_below_drewN | apply below_drew1 | refine below_set ?_ GE220.out | refine below_set ?_ GE229.out) | exact HB.out)) hb); have n5_ := Aside0.mk (hbox); have n6_ := Aside0.mk ((by rw [hg]; exact (below_size (by repeat (first | (with_reducible first | exact HB.out | apply below_alloc | apply pw_below_drewN | apply below_drew1 | refine below_set ?_ GE220.out | refine below_set ?_ GE229.out) | exact HB.out))) : w.heap.size ≤ gb234)); have n7_ := Aside0.mk ((by rw [hg]; exact (below_size (by repeat (first | (with_reducible first | exact HB.out | apply below_alloc | apply pw_below_drewN | apply below_drew1 | refine below_set ?_ GE220.out | refine below_set ?_ GE229.out) | exact HB.out))) : w.heap.size ≤ gb234)); have n8_ := Aside0.mk ((by rw [hg]; exact Nat.ne_of_lt (blk_lt (g := gb220) (o := .cells #[.slice (some ad228) l0_0.length c0_0] 41 (0, 0)) (by (with_reducible repeat (first | refine blk_drewN ?_ _ | refine blk_drew ?_ | refine blk_alloc ?_ _)); exact BK220.out)) : gb220 ≠ gb234)); have n9_ := Aside0.mk ((by rw [hg]; exact Nat.ne_of_gt (blk_lt (g := gb220) (o := .cells #[.slice (some ad228) l0_0.length c0_0] 41 (0, 0)) (by (with_reducible repeat (first | refine blk_drewN ?_ _ | refine blk_drew ?_ | refine blk_alloc ?_ _)); exact BK220.out)) : gb234 ≠ gb220)); have n10_ := Aside0.mk ((by rw [hg]; exact Nat.ne_of_lt (blk_lt (g := gb229) (o := .cells #[.int .i64 ((rd_T118 l0_0 (rd x6_1 0)).f0), .slice A228_1 ((rd_T118 l0_0 (rd x6_1 0)).f1).length c228_1, .int .i64 ((rd_T118 l0_0 (rd x6_1 0)).f2), .int .i64 ((rd_T118 l0_0 (rd x6_1 0)).f3), .slice (some ad233) ((rd_T118 l0_0 (rd x6_1 0)).f4).length c228_4] 118 (0, 0)) (by (with_reducible repeat (first | refine blk_drewN ?_ _ | refine blk_drew ?_ | refine blk_alloc ?_ _)); exact BK229.out)) : gb229 ≠ gb234)); have n11_ := Aside0.mk ((by rw [hg]; exact Nat.ne_of_gt (blk_lt (g := gb229) (o := .cells #[.int .i64 ((rd_T118 l0_0 (rd x6_1 0)).f0), .slice A228_1 ((rd_T118 l0_0 (rd x6_1 0)).f1).length c228_1, .int .i64 ((rd_T118 l0_0 (rd x6_1 0)).f2), .int .i64 ((rd_T118 l0_0 (rd x6_1 0)).f3), .slice (some ad233) ((rd_T118 l0_0 (rd x6_1 0)).f4).length c228_4] 118 (0, 0)) (by (with_reducible repeat (first | refine blk_drewN ?_ _ | refine blk_drew ?_ | refine blk_alloc ?_ _)); exact BK229.out)) : gb234 ≠ gb229)); clear HO_5; clear HO_6; clear BK220; clear BK229; clear HB; have HO_5 := n0_; have HO_6 := n1_; have BK220 := n2_; have BK229 := n3_; have HB := n4_; have BK234 := n5_; have GW234 := n6_; have GE234 := n7_; have NB220_234 := n8_; have NB234_220 := n9_; have NB229_234 := n10_; have NB234_229 := n11_; clear n0_ n1_ n2_ n3_ n4_ n5_ n6_ n7_ n8_ n9_ n10_ n11_; clear hb hbox hg; have hnb29 := NB234_220.out; have hnc29 := NB220_234.out; have hnb30 := NB234_229.out; have hnc30 := NB229_234.out; have hcz31_0 : w28.cell? ⟨gb234, 0, none⟩ = some (.int .i64 0) := (blk_cell BK234.out 0).trans rfl; have hcz31_1 : w28.cell? ⟨gb234, 1, none⟩ = some (.slice none 0 0) := (blk_cell BK234.out 1).trans rfl; have hfz31_0 := blk_frozen BK234.out 0; have hfz31_1 := blk_frozen BK234.out 1))
                          go_loopg [5, 6, 37] k2 (fun kq v5 v6 v37 w' => ∃ (x5_3 : List Int) (x6_3 : List Int) (x37_3 : Int), v37 = .int .i64 x37_3 ∧ Aside0 (impl_comeTo.l2 kq x5_3 x6_3 ((rd_T118 l0_0 (rd x6_1 0)).f4) (((rd_T118 l0_0 (rd x6_1 0)).f4).length : Int) x30_2 ((rd_T131 ((rd_T118 l0_0 (rd x6_1 0)).f4) x30_2).f1) (((rd_T131 ((rd_T118 l0_0 (rd x6_1 0)).f4) x30_2).f1).length : Int) x37_3 l0_0 = some r) ∧ Aside0 (kq ≤ k2) ∧ Aside0 (Kd.R (Kd.int .i64) 3 w' w.heap.size (fun k_ => some k_ ≠ (v6 : Value).ownBlock) v5 x5_3) ∧ Aside0 (Kd.Q (Kd.int .i64) 3 w' w.heap.size (fun k_ => some k_ ≠ (v5 : Value).ownBlock) v6 x6_3) ∧ Aside0 (w'.heap[gb220]? = some (.cells #[(.slice (some ad228) l0_0.length c0_0)] 41 (0, 0))) ∧ Aside0 (w'.heap[gb229]? = some (.cells #[.int .i64 ((rd_T118 l0_0 (rd x6_1 0)).f0), (.slice A228_1 ((rd_T118 l0_0 (rd x6_1 0)).f1).length c228_1), .int .i64 ((rd_T118 l0_0 (rd x6_1 0)).f2), .int .i64 ((rd_T118 l0_0 (rd x6_1 0)).f3), (.slice (some ad233) ((rd_T118 l0_0 (rd x6_1 0)).f4).length c228_4)] 118 (0, 0))) ∧ Aside0 (w'.heap[gb234]? = some (.cells #[.int .i64 ((rd_T131 ((rd_T118 l0_0 (rd x6_1 0)).f4) x30_2).f0), (.slice A233_1 ((rd_T131 ((rd_T118 l0_0 (rd x6_1 0)).f4) x30_2).f1).length c233_1)] 131 (0, 0))) ∧ Aside0 (Below w.heap.size w w'))
                          case atStart => exact ⟨(x5_2), (x6_2), (0), (by first | rfl | (simp; done) | (simp [*]; done) | (simp [isE0, isE1]; done)), H', ⟨Nat.le_refl _⟩, ⟨by (with_reducible repeat (first | apply Kd.R_alloc | apply Kd.R_drewN | apply Kd.R_drew)); exact Kd.R_mono (Kd.R_far (p := ⟨gb234, 1, none⟩) (Kd.R_far (p := ⟨gb234, 0, none⟩) (Kd.R_types HO_5.out BK234.out (by decide)) (fun _ hk => hk.2) (.int .i64 ((rd_T131 ((rd_T118 l0_0 (rd x6_1 0)).f4) x30_2).f0))) (fun _ hk => hk.2) (.slice A233_1 ((rd_T131 ((rd_T118 l0_0 (rd x6_1 0)).f4) x30_2).f1).length c233_1)) (fun _ hk => hk.1)⟩, ⟨by (with_reducible repeat (first | apply Kd.Q_alloc | apply Kd.Q_drewN | apply Kd.Q_drew)); exact Kd.Q_mono (Kd.Q_far (p := ⟨gb234, 1, none⟩) (Kd.Q_far (p := ⟨gb234, 0, none⟩) (Kd.Q_types HO_6.out BK234.out (by decide)) (fun _ hk => hk.2) (.int .i64 ((rd_T131 ((rd_T118 l0_0 (rd x6_1 0)).f4) x30_2).f0))) (fun _ hk => hk.2) (.slice A233_1 ((rd_T131 ((rd_T118 l0_0 (rd x6_1 0)).f4) x30_2).f1).length c233_1)) (fun _ hk => hk.1)⟩, ⟨by (with_reducible repeat (first | refine blk_drewN ?_ _ | refine blk_drew ?_ | refine blk_alloc ?_ _)); refine blk_far ?_ NB220_234.out _; (with_reducible repeat (first | refine blk_drewN ?_ _ | refine blk_drew ?_ | refine blk_alloc ?_ _)); refine blk_far ?_ NB220_234.out _; (with_reducible repeat (first | refine blk_drewN ?_ _ | refine blk_drew ?_ | refine blk_alloc ?_ _)); exact BK220.out⟩, ⟨by (with_reducible repeat (first | refine blk_drewN ?_ _ | refine blk_drew ?_ | refine blk_alloc ?_ _)); refine blk_far ?_ NB229_234.out _; (with_reducible repeat (first | refine blk_drewN ?_ _ | refine blk_drew ?_ | refine blk_alloc ?_ _)); refine blk_far ?_ NB229_234.out _; (with_reducible repeat (first | refine blk_drewN ?_ _ | refine blk_drew ?_ | refine blk_alloc ?_ _)); exact BK229.out⟩, ⟨by (with_reducible repeat (first | refine blk_drewN ?_ _ | refine blk_drew ?_ | refine blk_alloc ?_ _)); refine blk_put (cs := #[.int .i64 ((rd_T131 ((rd_T118 l0_0 (rd x6_1 0)).f4) x30_2).f0), .slice none 0 0]) ?_ 1 _ rfl; (with_reducible repeat (first | refine blk_drewN ?_ _ | refine blk_drew ?_ | refine blk_alloc ?_ _)); refine blk_put (cs := #[.int .i64 0, .slice none 0 0]) ?_ 0 _ rfl; (with_reducible repeat (first | refine blk_drewN ?_ _ | refine blk_drew ?_ | refine blk_alloc ?_ _)); exact BK234.out⟩, ⟨by repeat (first | (with_reducible first | exact HB.out | apply below_alloc | apply pw_below_drewN | apply below_drew1 | refine below_set ?_ GE220.out | refine below_set ?_ GE229.out | refine below_set ?_ GE234.out) | exact HB.out)⟩⟩
                          case round =>
                            clear H'
                            try clear c1
                            try clear c2
                            try clear p2
                            try clear q2
                            try clear hx2
                            try clear qi2
                            try clear c3
                            try clear c7
                            try clear c8
                            try clear c8b0
                            try clear c8b1
                            try clear c9
                            try clear c9b0
                            try clear c9b1
                            try clear c10
                            try clear c10b0
                            try clear c11
                            try clear c11b0
                            try clear c12
                            try clear c12b0
                            try clear c12b1
                            try clear c22
                            try clear p22
                            try clear q22
                            try clear hx22
                            try clear qi22
                            try clear c23
                            try clear p23
                            try clear q23
                            try clear hx23
                            try clear c25
                            try clear c25b0
                            try clear c26
                            try clear c26b0
                            try clear c27
                            try clear c27b0
                            try clear c29
                            try clear c30
                            try clear hcz24_0
                            try clear hcz24_1
                            try clear hcz24_2
                            try clear hcz24_3
                            try clear hcz24_4
                            try clear hcz31_0
                            try clear hcz31_1
                            try clear hfz24_0
                            try clear hfz24_1
                            try clear hfz24_2
                            try clear hfz24_3
                            try clear hfz24_4
                            try clear hfz31_0
                            try clear hfz31_1
                            try clear hx227_0
                            try clear hx228_0
                            try clear hx228_1
                            try clear hx228_2
                            try clear hx228_3
                            try clear hx228_4
                            try clear hx233_0
                            try clear hx233_1
                            try clear p2
                            try clear p22
                            try clear p227
                            try clear p228
                            try clear p233
                            try clear q2
                            try clear q22
                            try clear q227
                            try clear q228
                            try clear q233
                            obtain ⟨x5_3, x6_3, x37_3, rfl, HA, HK3, HO_5, HO_6, BK220, BK229, BK234, HB⟩ := hrel
                            cases gk with
                            | zero => exact absurd HA.out (by simp [impl_comeTo.l2])
                            | succ k3 =>
                              have H := HA.out
                              clear HA
                              simp only [impl_comeTo.l2] at H
                              by_cases c32 : x37_3 < (((rd_T131 ((rd_T118 l0_0 (rd x6_1 0)).f4) x30_2).f1).length : Int)
                              · rw [if_pos c32] at H
                                have c32b0 : decide (x37_3 < (((rd_T131 ((rd_T118 l0_0 (rd x6_1 0)).f4) x30_2).f1).length : Int)) = true := decide_eq_true c32
                                clear c32
                                by_cases c33 : 0 ≤ x37_3
                                · rw [if_pos c33] at H
                                  have c33b0 : decide (0 ≤ x37_3) = true := decide_eq_true c33
                                  clear c33
                                  by_cases c34 : x37_3 < (((rd_T131 ((rd_T118 l0_0 (rd x6_1 0)).f4) x30_2).f1).length : Int)
                                  · rw [if_pos c34] at H
                                    have c34b0 : decide (x37_3 < (((rd_T131 ((rd_T118 l0_0 (rd x6_1 0)).f4) x30_2).f1).length : Int)) = true := decide_eq_true c34
                                    clear c34
                                    replace H := Option.bind_eq_some_iff.mp H
                                    obtain ⟨t236, A350, H⟩ := H
                                    replace H : (if t236 = true then ((slices_Contains_int_int.f k3 x5_3 (rd ((rd_T131 ((rd_T118 l0_0 (rd x6_1 0)).f4) x30_2).f1) x37_3)).bind fun t237 => (if t237 = true then (impl_comeTo.l2 k3 x5_3 x6_3 ((rd_T118 l0_0 (rd x6_1 0)).f4) (((rd_T118 l0_0 (rd x6_1 0)).f4).length : Int) x30_2 ((rd_T131 ((rd_T118 l0_0 (rd x6_1 0)).f4) x30_2).f1) (((rd_T131 ((rd_T118 l0_0 (rd x6_1 0)).f4) x30_2).f1).length : Int) (wrap64 (x37_3 + 1)) l0_0) else (if x5_3.length < 17592186044416 then (if x6_3.length < 17592186044416 then (impl_comeTo.l2 k3 (x5_3 ++ [rd ((rd_T131 ((rd_T118 l0_0 (rd x6_1 0)).f4) x30_2).f1) x37_3]) (x6_3 ++ [rd ((rd_T131 ((rd_T118 l0_0 (rd x6_1 0)).f4) x30_2).f1) x37_3]) ((rd_T118 l0_0 (rd x6_1 0)).f4) (((rd_T118 l0_0 (rd x6_1 0)).f4).length : Int) x30_2 ((rd_T131 ((rd_T118 l0_0 (rd x6_1 0)).f4) x30_2).f1) (((rd_T131 ((rd_T118 l0_0 (rd x6_1 0)).f4) x30_2).f1).length : Int) (wrap64 (x37_3 + 1)) l0_0) else (none)) else (none)))) else (impl_comeTo.l2 k3 x5_3 x6_3 ((rd_T118 l0_0 (rd x6_1 0)).f4) (((rd_T118 l0_0 (rd x6_1 0)).f4).length : Int) x30_2 ((rd_T131 ((rd_T118 l0_0 (rd x6_1 0)).f4) x30_2).f1) (((rd_T131 ((rd_T118 l0_0 (rd x6_1 0)).f4) x30_2).f1).length : Int) (wrap64 (x37_3 + 1)) l0_0)) = some r := H
                                    have A35 := Aside0.mk A350
                                    clear A350
                                    by_cases c36 : t236 = true
                                    · subst c36
                                      have H1 : ((slices_Contains_int_int.f k3 x5_3 (rd ((rd_T131 ((rd_T118 l0_0 (rd x6_1 0)).f4) x30_2).f1) x37_3)).bind fun t237 => (if t237 = true then (impl_comeTo.l2 k3 x5_3 x6_3 ((rd_T118 l0_0 (rd x6_1 0)).f4) (((rd_T118 l0_0 (rd x6_1 0)).f4).length : Int) x30_2 ((rd_T131 ((rd_T118 l0_0 (rd x6_1 0)).f4) x30_2).f1) (((rd_T131 ((rd_T118 l0_0 (rd x6_1 0)).f4) x30_2).f1).length : Int) (wrap64 (x37_3 + 1)) l0_0) else (if x5_3.length < 17592186044416 then (if x6_3.length < 17592186044416 then (impl_comeTo.l2 k3 (x5_3 ++ [rd ((rd_T131 ((rd_T118 l0_0 (rd x6_1 0)).f4) x30_2).f1) x37_3]) (x6_3 ++ [rd ((rd_T131 ((rd_T118 l0_0 (rd x6_1 0)).f4) x30_2).f1) x37_3]) ((rd_T118 l0_0 (rd x6_1 0)).f4) (((rd_T118 l0_0 (rd x6_1 0)).f4).length : Int) x30_2 ((rd_T131 ((rd_T118 l0_0 (rd x6_1 0)).f4) x30_2).f1) (((rd_T131 ((rd_T118 l0_0 (rd x6_1 0)).f4) x30_2).f1).length : Int) (wrap64 (x37_3 + 1)) l0_0) else (none)) else (none)))) = some r := by rw [if_pos rfl] at H; exact H
                                      clear H
                                      have H := H1
                                      clear H1
                                      replace H := Option.bind_eq_some_iff.mp H
                                      obtain ⟨t237, A370, H⟩ := H
                                      replace H : (if t237 = true then (impl_comeTo.l2 k3 x5_3 x6_3 ((rd_T118 l0_0 (rd x6_1 0)).f4) (((rd_T118 l0_0 (rd x6_1 0)).f4).length : Int) x30_2 ((rd_T131 ((rd_T118 l0_0 (rd x6_1 0)).f4) x30_2).f1) (((rd_T131 ((rd_T118 l0_0 (rd x6_1 0)).f4) x30_2).f1).length : Int) (wrap64 (x37_3 + 1)) l0_0) else (if x5_3.length < 17592186044416 then (if x6_3.length < 17592186044416 then (impl_comeTo.l2 k3 (x5_3 ++ [rd ((rd_T131 ((rd_T118 l0_0 (rd x6_1 0)).f4) x30_2).f1) x37_3]) (x6_3 ++ [rd ((rd_T131 ((rd_T118 l0_0 (rd x6_1 0)).f4) x30_2).f1) x37_3]) ((rd_T118 l0_0 (rd x6_1 0)).f4) (((rd_T118 l0_0 (rd x6_1 0)).f4).length : Int) x30_2 ((rd_T131 ((rd_T118 l0_0 (rd x6_1 0)).f4) x30_2).f1) (((rd_T131 ((rd_T118 l0_0 (rd x6_1 0)).f4) x30_2).f1).length : Int) (wrap64 (x37_3 + 1)) l0_0) else (none)) else (none))) = some r := H
                                      have A37 := Aside0.mk A370
                                      clear A370
                                      by_cases c38 : t237 = true
                                      · subst c38
                                        have H1 : (impl_comeTo.l2 k3 x5_3 x6_3 ((rd_T118 l0_0 (rd x6_1 0)).f4) (((rd_T118 l0_0 (rd x6_1 0)).f4).length : Int) x30_2 ((rd_T131 ((rd_T118 l0_0 (rd x6_1 0)).f4) x30_2).f1) (((rd_T131 ((rd_T118 l0_0 (rd x6_1 0)).f4) x30_2).f1).length : Int) (wrap64 (x37_3 + 1)) l0_0) = some r := by rw [if_pos rfl] at H; exact H
                                        clear H
                                        have H := H1
                                        clear H1
                                        have H' := Aside0.mk H
                                        clear H
                                        have p235 : 0 ≤ (x37_3 : Int) := of_decide_eq_true (by first | (with_reducible assumption) | assumption)
                                        have q235 : x37_3 < (((rd_T131 ((rd_T118 l0_0 (rd x6_1 0)).f4) x30_2).f1).length : Int) := of_decide_eq_true (by first | (with_reducible assumption) | assumption)
                                        obtain ⟨ad235, e235, hx235_0⟩ := Kd.at_int HR233_1.out x37_3 p235 q235
                                        cases e235
                                        replace hx235_0 := (HB.out.cell (World.block_lt_of_cell? w _ hx235_0)).trans hx235_0
                                        replace p235 := eq_true p235
                                        replace q235 := eq_true q235
                                        have hnb39 := NB220_229.out
                                        have hnc39 := NB229_220.out
                                        have hnb40 := NB220_234.out
                                        have hnc40 := NB234_220.out
                                        have hcz41_0 : wr.cell? ⟨gb220, 0, none⟩ = some (.slice (some ad228) l0_0.length c0_0) := (blk_cell BK220.out 0).trans rfl
                                        have hfz41_0 := blk_frozen BK220.out 0
                                        go_wp2_with (first | ((with_reducible refine gate_callee (f := 86) rfl ?_); refine goesL_ (some 46) rfl rfl Try.func86 (by kernel_rfl) rfl #[.int .i64 (rd ((rd_T131 ((rd_T118 l0_0 (rd x6_1 0)).f4) x30_2).f1) x37_3), .int .i64 0, .int .i64 (wrap64 ((l0_0.length : Int) - 1))] rfl (by (try simp only [List.map_toArray, List.map_cons, List.map_nil]); first | done | rfl | (simp only [List.length_drop, List.length_take]; rfl)) ?_; (with_reducible refine (impl_within.calls (rd ((rd_T131 ((rd_T118 l0_0 (rd x6_1 0)).f4) x30_2).f1) x37_3) 0 (wrap64 ((l0_0.length : Int) - 1)) true _ A35.out).mono ?_); rintro e w' ⟨rfl, ⟨nd, rfl⟩⟩; refine ⟨_, rfl, ?_⟩; obtain ⟨Ao42, co42, eo42⟩ := Kd.R_slice HO_5.out; subst eo42) | (go_at_call 76; (with_reducible refine (slices_Contains_int_int.calls k3 _ _ x5_3 (rd ((rd_T131 ((rd_T118 l0_0 (rd x6_1 0)).f4) x30_2).f1) x37_3) true _ ?side1 ?side2 A37.out).mono ?_); (case side1 => repeat (first | exact (Kd.R_reads' HO_5.out).2.2 | (with_reducible refine Kd.C_alloc ?_ _) | (with_reducible refine Kd.C_drewN ?_ _) | (with_reducible refine Kd.C_drew ?_))); (case side2 => exact (Kd.R_reads' HO_5.out).2.1); rintro e w' ⟨rfl, ⟨nd, rfl⟩⟩))
                                        go_roundg k3
                                        case measure => have := HK1.out; have := HK2.out; have := HK3.out; omega
                                        case rel => exact ⟨(x5_3), (x6_3), (wrap64 (x37_3 + 1)), (by first | rfl | (simp; done) | (simp [*]; done) | (simp [isE0, isE1]; done)), H', ⟨by have := HK1.out; have := HK2.out; have := HK3.out; omega⟩, ⟨by (with_reducible repeat (first | apply Kd.R_alloc | apply Kd.R_drewN | apply Kd.R_drew)); exact HO_5.out⟩, ⟨by (with_reducible repeat (first | apply Kd.Q_alloc | apply Kd.Q_drewN | apply Kd.Q_drew)); exact HO_6.out⟩, ⟨by (with_reducible repeat (first | refine blk_drewN ?_ _ | refine blk_drew ?_ | refine blk_alloc ?_ _)); exact BK220.out⟩, ⟨by (with_reducible repeat (first | refine blk_drewN ?_ _ | refine blk_drew ?_ | refine blk_alloc ?_ _)); exact BK229.out⟩, ⟨by (with_reducible repeat (first | refine blk_drewN ?_ _ | refine blk_drew ?_ | refine blk_alloc ?_ _)); exact BK234.out⟩, ⟨by repeat (first | (with_reducible first | exact HB.out | apply below_alloc | apply pw_below_drewN | apply below_drew1 | refine below_set ?_ GE220.out | refine below_set ?_ GE229.out | refine below_set ?_ GE234.out) | exact HB.out)⟩⟩
                                      · replace c38 := Bool.eq_false_iff.mpr c38
                                        subst c38
                                        have H1 : (if x5_3.length < 17592186044416 then (if x6_3.length < 17592186044416 then (impl_comeTo.l2 k3 (x5_3 ++ [rd ((rd_T131 ((rd_T118 l0_0 (rd x6_1 0)).f4) x30_2).f1) x37_3]) (x6_3 ++ [rd ((rd_T131 ((rd_T118 l0_0 (rd x6_1 0)).f4) x30_2).f1) x37_3]) ((rd_T118 l0_0 (rd x6_1 0)).f4) (((rd_T118 l0_0 (rd x6_1 0)).f4).length : Int) x30_2 ((rd_T131 ((rd_T118 l0_0 (rd x6_1 0)).f4) x30_2).f1) (((rd_T131 ((rd_T118 l0_0 (rd x6_1 0)).f4) x30_2).f1).length : Int) (wrap64 (x37_3 + 1)) l0_0) else (none)) else (none)) = some r := by rw [if_neg (show ¬ (false = true) by decide)] at H; exact H
                                        clear H
                                        have H := H1
                                        clear H1
                                        by_cases c43 : x5_3.length < 17592186044416
                                        · rw [if_pos c43] at H
                                          have LMc43 := Aside0.mk c43
                                          clear c43
                                          obtain ⟨y238, hy238⟩ : ∃ y_ : List Int, y_ = (x5_3 ++ [rd ((rd_T131 ((rd_T118 l0_0 (rd x6_1 0)).f4) x30_2).f1) x37_3]) := ⟨_, rfl⟩
                                          replace H : (if x6_3.length < 17592186044416 then (impl_comeTo.l2 k3 y238 (x6_3 ++ [rd ((rd_T131 ((rd_T118 l0_0 (rd x6_1 0)).f4) x30_2).f1) x37_3]) ((rd_T118 l0_0 (rd x6_1 0)).f4) (((rd_T118 l0_0 (rd x6_1 0)).f4).length : Int) x30_2 ((rd_T131 ((rd_T118 l0_0 (rd x6_1 0)).f4) x30_2).f1) (((rd_T131 ((rd_T118 l0_0 (rd x6_1 0)).f4) x30_2).f1).length : Int) (wrap64 (x37_3 + 1)) l0_0) else (none)) = some r := by first | (rw [hy238]; with_reducible exact H) | (have H2_ := (Option.bind_some _ _).symm.trans H; rw [hy238]; with_reducible exact H2_) | (have H2_ := (Option.bind_some _ _).symm.trans H; with_reducible exact H2_) | with_reducible exact H | (rw [hy238]; exact H) | exact H
                                          have Ny238 := Aside0.mk hy238
                                          clear hy238
                                          by_cases c44 : x6_3.length < 17592186044416
                                          · rw [if_pos c44] at H
                                            have LMc44 := Aside0.mk c44
                                            clear c44
                                            obtain ⟨y241, hy241⟩ : ∃ y_ : List Int, y_ = (x6_3 ++ [rd ((rd_T131 ((rd_T118 l0_0 (rd x6_1 0)).f4) x30_2).f1) x37_3]) := ⟨_, rfl⟩
                                            replace H : (impl_comeTo.l2 k3 y238 y241 ((rd_T118 l0_0 (rd x6_1 0)).f4) (((rd_T118 l0_0 (rd x6_1 0)).f4).length : Int) x30_2 ((rd_T131 ((rd_T118 l0_0 (rd x6_1 0)).f4) x30_2).f1) (((rd_T131 ((rd_T118 l0_0 (rd x6_1 0)).f4) x30_2).f1).length : Int) (wrap64 (x37_3 + 1)) l0_0) = some r := by first | (rw [hy241]; with_reducible exact H) | (have H2_ := (Option.bind_some _ _).symm.trans H; rw [hy241]; with_reducible exact H2_) | (have H2_ := (Option.bind_some _ _).symm.trans H; with_reducible exact H2_) | with_reducible exact H | (rw [hy241]; exact H) | exact H
                                            have Ny241 := Aside0.mk hy241
                                            clear hy241
                                            have H' := Aside0.mk H
                                            clear H
                                            have p235 : 0 ≤ (x37_3 : Int) := of_decide_eq_true (by first | (with_reducible assumption) | assumption)
                                            have q235 : x37_3 < (((rd_T131 ((rd_T118 l0_0 (rd x6_1 0)).f4) x30_2).f1).length : Int) := of_decide_eq_true (by first | (with_reducible assumption) | assumption)
                                            obtain ⟨ad235, e235, hx235_0⟩ := Kd.at_int HR233_1.out x37_3 p235 q235
                                            cases e235
                                            replace hx235_0 := (HB.out.cell (World.block_lt_of_cell? w _ hx235_0)).trans hx235_0
                                            replace p235 := eq_true p235
                                            replace q235 := eq_true q235
                                            have hnb45 := NB220_229.out
                                            have hnc45 := NB229_220.out
                                            have hnb46 := NB220_234.out
                                            have hnc46 := NB234_220.out
                                            have hcz47_0 : wr.cell? ⟨gb220, 0, none⟩ = some (.slice (some ad228) l0_0.length c0_0) := (blk_cell BK220.out 0).trans rfl
                                            have hfz47_0 := blk_frozen BK220.out 0
                                            go_wp2_with (first | ((with_reducible refine gate_callee (f := 86) rfl ?_); refine goesL_ (some 46) rfl rfl Try.func86 (by kernel_rfl) rfl #[.int .i64 (rd ((rd_T131 ((rd_T118 l0_0 (rd x6_1 0)).f4) x30_2).f1) x37_3), .int .i64 0, .int .i64 (wrap64 ((l0_0.length : Int) - 1))] rfl (by (try simp only [List.map_toArray, List.map_cons, List.map_nil]); first | done | rfl | (simp only [List.length_drop, List.length_take]; rfl)) ?_; (with_reducible refine (impl_within.calls (rd ((rd_T131 ((rd_T118 l0_0 (rd x6_1 0)).f4) x30_2).f1) x37_3) 0 (wrap64 ((l0_0.length : Int) - 1)) true _ A35.out).mono ?_); rintro e w' ⟨rfl, ⟨nd, rfl⟩⟩; refine ⟨_, rfl, ?_⟩; obtain ⟨Ao48, co48, eo48⟩ := Kd.R_slice HO_5.out; subst eo48) | (go_at_call 76; (with_reducible refine (slices_Contains_int_int.calls k3 _ _ x5_3 (rd ((rd_T131 ((rd_T118 l0_0 (rd x6_1 0)).f4) x30_2).f1) x37_3) false _ ?side1 ?side2 A37.out).mono ?_); (case side1 => repeat (first | exact (Kd.R_reads' HO_5.out).2.2 | (with_reducible refine Kd.C_alloc ?_ _) | (with_reducible refine Kd.C_drewN ?_ _) | (with_reducible refine Kd.C_drew ?_))); (case side2 => exact (Kd.R_reads' HO_5.out).2.1); rintro e w' ⟨rfl, ⟨nd, rfl⟩⟩) | ((with_reducible refine gate_builtin (b := .append) (xs := #[.tmp 53, .tmp 55]) rfl ?_); at_builtin; refine Kd.R_append (Kd.int .i64) (w0 := w) w.heap.size rfl (.tmp 53) (.tmp 55) 30 3 (.int .i64 0) 8 rfl Try.underlying30 info3 rfl (by decide) (by omega) (.slice Ao48 x5_3.length co48) x5_3 (rd ((rd_T131 ((rd_T118 l0_0 (rd x6_1 0)).f4) x30_2).f1) x37_3) [.int .i64 (rd ((rd_T131 ((rd_T118 l0_0 (rd x6_1 0)).f4) x30_2).f1) x37_3)] (fun k_ => some k_ ≠ (u6 : Value).ownBlock) (fun _ => False) rfl rfl ?aP (fun _ hk => hk.elim) ?aF ?aO ?aB ?aS ?aL ?_; (case aP => exact rfl); (case aB => exact (by repeat (first | (with_reducible first | exact HB.out | apply below_alloc | apply pw_below_drewN | apply below_drew1 | refine below_set ?_ GE220.out | refine below_set ?_ GE229.out | refine below_set ?_ GE234.out) | exact HB.out))); (case aF => exact (fun k_ hk => Kd.fresh' (Kd.Q_lt (by (with_reducible repeat (first | apply Kd.Q_alloc | apply Kd.Q_drewN | apply Kd.Q_drew)); exact HO_6.out)) k_ hk)); (case aO => exact (by (with_reducible repeat (first | apply Kd.R_alloc | apply Kd.R_drewN | apply Kd.R_drew)); exact HO_5.out)); (case aS => exact (below_size (by repeat (first | (with_reducible first | exact HB.out | apply below_alloc | apply pw_below_drewN | apply below_drew1 | refine below_set ?_ GE220.out | refine below_set ?_ GE229.out | refine below_set ?_ GE234.out) | exact HB.out)))); (case aL => have := LMc43.out; omega); intro v239 w49 ho hb hg hat; rw [← Ny238.out] at ho; have n0_ := Aside0.mk (Kd.Q_after (ok := (fun _ => True)) (by (with_reducible repeat (first | apply Kd.Q_alloc | apply Kd.Q_drewN | apply Kd.Q_drew)); exact Kd.Q_mono HO_6.out (fun _ hk => ⟨trivial, hk⟩)) hg hat); have n1_ := Aside0.mk (blk_grown (g := gb220) (o := .cells #[.slice (some ad228) l0_0.length c0_0] 41 (0, 0)) (by (with_reducible repeat (first | refine blk_drewN ?_ _ | refine blk_drew ?_ | refine blk_alloc ?_ _)); exact BK220.out) hg (Kd.R_ne HO_5.out BK220.out (by decide))); have n2_ := Aside0.mk (blk_grown (g := gb229) (o := .cells #[.int .i64 ((rd_T118 l0_0 (rd x6_1 0)).f0), .slice A228_1 ((rd_T118 l0_0 (rd x6_1 0)).f1).length c228_1, .int .i64 ((rd_T118 l0_0 (rd x6_1 0)).f2), .int .i64 ((rd_T118 l0_0 (rd x6_1 0)).f3), .slice (some ad233) ((rd_T118 l0_0 (rd x6_1 0)).f4).length c228_4] 118 (0, 0)) (by (with_reducible repeat (first | refine blk_drewN ?_ _ | refine blk_drew ?_ | refine blk_alloc ?_ _)); exact BK229.out) hg (Kd.R_ne HO_5.out BK229.out (by decide))); have n3_ := Aside0.mk (blk_grown (g := gb234) (o := .cells #[.int .i64 ((rd_T131 ((rd_T118 l0_0 (rd x6_1 0)).f4) x30_2).f0), .slice (some ad235) ((rd_T131 ((rd_T118 l0_0 (rd x6_1 0)).f4) x30_2).f1).length c233_1] 131 (0, 0)) (by (with_reducible repeat (first | refine blk_drewN ?_ _ | refine blk_drew ?_ | refine blk_alloc ?_ _)); exact BK234.out) hg (Kd.R_ne HO_5.out BK234.out (by decide))); have n4_ := Aside0.mk (hb); have n5_ := Aside0.mk (ho); clear HO_6; clear BK220; clear BK229; clear BK234; clear HB; clear HO_5; have HO_6 := n0_; have BK220 := n1_; have BK229 := n2_; have BK234 := n3_; have HB := n4_; have HO240 := n5_; clear n0_ n1_ n2_ n3_ n4_ n5_; clear ho hb hg hat) | ((with_reducible refine gate_builtin (b := .append) (xs := #[.tmp 57, .tmp 59]) rfl ?_); at_builtin; refine Kd.Q_append (Kd.int .i64) (w0 := w) w.heap.size rfl (.tmp 57) (.tmp 59) 30 3 (.int .i64 0) 8 rfl Try.underlying30 info3 rfl (by decide) (by omega) u6 x6_3 (rd ((rd_T131 ((rd_T118 l0_0 (rd x6_1 0)).f4) x30_2).f1) x37_3) [.int .i64 (rd ((rd_T131 ((rd_T118 l0_0 (rd x6_1 0)).f4) x30_2).f1) x37_3)] (fun k_ => some k_ ≠ (v239 : Value).ownBlock) (fun _ => False) rfl rfl ?aP (fun _ hk => hk.elim) ?aF ?aO ?aB ?aS ?aL ?_; (case aP => exact rfl); (case aB => exact (by repeat (first | (with_reducible first | exact HB.out | apply below_alloc | apply pw_below_drewN | apply below_drew1 | refine below_set ?_ GE220.out | refine below_set ?_ GE229.out | refine below_set ?_ GE234.out) | exact HB.out))); (case aF => exact (fun k_ hk => Kd.fresh' (Kd.R_lt (by (with_reducible repeat (first | apply Kd.R_alloc | apply Kd.R_drewN | apply Kd.R_drew)); exact HO240.out)) k_ hk)); (case aO => exact (by (with_reducible repeat (first | apply Kd.Q_alloc | apply Kd.Q_drewN | apply Kd.Q_drew)); exact Kd.Q_mono HO_6.out (fun _ hk => hk.2))); (case aS => exact (below_size (by repeat (first | (with_reducible first | exact HB.out | apply below_alloc | apply pw_below_drewN | apply below_drew1 | refine below_set ?_ GE220.out | refine below_set ?_ GE229.out | refine below_set ?_ GE234.out) | exact HB.out)))); (case aL => have := LMc44.out; omega); intro v242 w50 ho hb hg hat; rw [← Ny241.out] at ho; have n0_ := Aside0.mk (blk_grown (g := gb220) (o := .cells #[.slice (some ad228) l0_0.length c0_0] 41 (0, 0)) (by (with_reducible repeat (first | refine blk_drewN ?_ _ | refine blk_drew ?_ | refine blk_alloc ?_ _)); exact BK220.out) hg (Kd.Q_ne HO_6.out BK220.out (by decide))); have n1_ := Aside0.mk (blk_grown (g := gb229) (o := .cells #[.int .i64 ((rd_T118 l0_0 (rd x6_1 0)).f0), .slice A228_1 ((rd_T118 l0_0 (rd x6_1 0)).f1).length c228_1, .int .i64 ((rd_T118 l0_0 (rd x6_1 0)).f2), .int .i64 ((rd_T118 l0_0 (rd x6_1 0)).f3), .slice (some ad233) ((rd_T118 l0_0 (rd x6_1 0)).f4).length c228_4] 118 (0, 0)) (by (with_reducible repeat (first | refine blk_drewN ?_ _ | refine blk_drew ?_ | refine blk_alloc ?_ _)); exact BK229.out) hg (Kd.Q_ne HO_6.out BK229.out (by decide))); have n2_ := Aside0.mk (blk_grown (g := gb234) (o := .cells #[.int .i64 ((rd_T131 ((rd_T118 l0_0 (rd x6_1 0)).f4) x30_2).f0), .slice (some ad235) ((rd_T131 ((rd_T118 l0_0 (rd x6_1 0)).f4) x30_2).f1).length c233_1] 131 (0, 0)) (by (with_reducible repeat (first | refine blk_drewN ?_ _ | refine blk_drew ?_ | refine blk_alloc ?_ _)); exact BK234.out) hg (Kd.Q_ne HO_6.out BK234.out (by decide))); have n3_ := Aside0.mk (Kd.R_after (ok := (fun _ => True)) (by (with_reducible repeat (first | apply Kd.R_alloc | apply Kd.R_drewN | apply Kd.R_drew)); exact Kd.R_mono HO240.out (fun _ hk => ⟨trivial, hk⟩)) hg hat); have n4_ := Aside0.mk (hb); have n5_ := Aside0.mk (ho); clear BK220; clear BK229; clear BK234; clear HO240; clear HB; clear HO_6; have BK220 := n0_; have BK229 := n1_; have BK234 := n2_; have HO240 := n3_; have HB := n4_; have HO243 := n5_; clear n0_ n1_ n2_ n3_ n4_ n5_; clear ho hb hg hat))
                                            go_roundg k3
                                            case measure => have := HK1.out; have := HK2.out; have := HK3.out; omega
                                            case rel => exact ⟨(y238), (y241), (wrap64 (x37_3 + 1)), (by first | rfl | (simp; done) | (simp [*]; done) | (simp [isE0, isE1]; done)), H', ⟨by have := HK1.out; have := HK2.out; have := HK3.out; omega⟩, ⟨by (with_reducible repeat (first | apply Kd.R_alloc | apply Kd.R_drewN | apply Kd.R_drew)); exact Kd.R_mono HO240.out (fun _ hk => hk.2)⟩, ⟨by (with_reducible repeat (first | apply Kd.Q_alloc | apply Kd.Q_drewN | apply Kd.Q_drew)); exact HO243.out⟩, ⟨by (with_reducible repeat (first | refine blk_drewN ?_ _ | refine blk_drew ?_ | refine blk_alloc ?_ _)); exact BK220.out⟩, ⟨by (with_reducible repeat (first | refine blk_drewN ?_ _ | refine blk_drew ?_ | refine blk_alloc ?_ _)); exact BK229.out⟩, ⟨by (with_reducible repeat (first | refine blk_drewN ?_ _ | refine blk_drew ?_ | refine blk_alloc ?_ _)); exact BK234.out⟩, ⟨by repeat (first | (with_reducible first | exact HB.out | apply below_alloc | apply pw_below_drewN | apply below_drew1 | refine below_set ?_ GE220.out | refine below_set ?_ GE229.out | refine below_set ?_ GE234.out) | exact HB.out)⟩⟩
                                          · rw [if_neg c44] at H
                                            exact absurd H (by simp)
                                        · rw [if_neg c43] at H
                                          exact absurd H (by simp)
                                    · replace c36 := Bool.eq_false_iff.mpr c36
                                      subst c36
                                      have H1 : (impl_comeTo.l2 k3 x5_3 x6_3 ((rd_T118 l0_0 (rd x6_1 0)).f4) (((rd_T118 l0_0 (rd x6_1 0)).f4).length : Int) x30_2 ((rd_T131 ((rd_T118 l0_0 (rd x6_1 0)).f4) x30_2).f1) (((rd_T131 ((rd_T118 l0_0 (rd x6_1 0)).f4) x30_2).f1).length : Int) (wrap64 (x37_3 + 1)) l0_0) = some r := by rw [if_neg (show ¬ (false = true) by decide)] at H; exact H
                                      clear H
                                      have H := H1
                                      clear H1
                                      have H' := Aside0.mk H
                                      clear H
                                      have p235 : 0 ≤ (x37_3 : Int) := of_decide_eq_true (by first | (with_reducible assumption) | assumption)
                                      have q235 : x37_3 < (((rd_T131 ((rd_T118 l0_0 (rd x6_1 0)).f4) x30_2).f1).length : Int) := of_decide_eq_true (by first | (with_reducible assumption) | assumption)
                                      obtain ⟨ad235, e235, hx235_0⟩ := Kd.at_int HR233_1.out x37_3 p235 q235
                                      cases e235
                                      replace hx235_0 := (HB.out.cell (World.block_lt_of_cell? w _ hx235_0)).trans hx235_0
                                      replace p235 := eq_true p235
                                      replace q235 := eq_true q235
                                      have hnb51 := NB220_229.out
                                      have hnc51 := NB229_220.out
                                      have hnb52 := NB220_234.out
                                      have hnc52 := NB234_220.out
                                      have hcz53_0 : wr.cell? ⟨gb220, 0, none⟩ = some (.slice (some ad228) l0_0.length c0_0) := (blk_cell BK220.out 0).trans rfl
                                      have hfz53_0 := blk_frozen BK220.out 0
                                      go_wp2_with (first | ((with_reducible refine gate_callee (f := 86) rfl ?_); refine goesL_ (some 46) rfl rfl Try.func86 (by kernel_rfl) rfl #[.int .i64 (rd ((rd_T131 ((rd_T118 l0_0 (rd x6_1 0)).f4) x30_2).f1) x37_3), .int .i64 0, .int .i64 (wrap64 ((l0_0.length : Int) - 1))] rfl (by (try simp only [List.map_toArray, List.map_cons, List.map_nil]); first | done | rfl | (simp only [List.length_drop, List.length_take]; rfl)) ?_; (with_reducible refine (impl_within.calls (rd ((rd_T131 ((rd_T118 l0_0 (rd x6_1 0)).f4) x30_2).f1) x37_3) 0 (wrap64 ((l0_0.length : Int) - 1)) false _ A35.out).mono ?_); rintro e w' ⟨rfl, ⟨nd, rfl⟩⟩; refine ⟨_, rfl, ?_⟩))
                                      go_roundg k3
                                      case measure => have := HK1.out; have := HK2.out; have := HK3.out; omega
                                      case rel => exact ⟨(x5_3), (x6_3), (wrap64 (x37_3 + 1)), (by first | rfl | (simp; done) | (simp [*]; done) | (simp [isE0, isE1]; done)), H', ⟨by have := HK1.out; have := HK2.out; have := HK3.out; omega⟩, ⟨by (with_reducible repeat (first | apply Kd.R_alloc | apply Kd.R_drewN | apply Kd.R_drew)); exact HO_5.out⟩, ⟨by (with_reducible repeat (first | apply Kd.Q_alloc | apply Kd.Q_drewN | apply Kd.Q_drew)); exact HO_6.out⟩, ⟨by (with_reducible repeat (first | refine blk_drewN ?_ _ | refine blk_drew ?_ | refine blk_alloc ?_ _)); exact BK220.out⟩, ⟨by (with_reducible repeat (first | refine blk_drewN ?_ _ | refine blk_drew ?_ | refine blk_alloc ?_ _)); exact BK229.out⟩, ⟨by (with_reducible repeat (first | refine blk_drewN ?_ _ | refine blk_drew ?_ | refine blk_alloc ?_ _)); exact BK234.out⟩, ⟨by repeat (first | (with_reducible first | exact HB.out | apply below_alloc | apply pw_below_drewN | apply below_drew1 | refine below_set ?_ GE220.out | refine below_set ?_ GE229.out | refine below_set ?_ GE234.out) | exact HB.out)⟩⟩
                                  · rw [if_neg c34] at H
                                    exact absurd H (by simp)
                                · rw [if_neg c33] at H
                                  exact absurd H (by simp)
                              · rw [if_neg c32] at H
                                have c32b0 : decide (x37_3 < (((rd_T131 ((rd_T118 l0_0 (rd x6_1 0)).f4) x30_2).f1).length : Int)) = false := decide_eq_false c32
                                clear c32
                                have H' := Aside0.mk H
                                clear H
                                go_wp2
                                go_roundg k3
                                case measure => have := HK1.out; have := HK2.out; have := HK3.out; omega
                                case rel => exact ⟨(x5_3), (x6_3), (wrap64 (x30_2 + 1)), (by first | rfl | (simp; done) | (simp [*]; done) | (simp [isE0, isE1]; done)), H', ⟨by have := HK1.out; have := HK2.out; have := HK3.out; omega⟩, ⟨by (with_reducible repeat (first | apply Kd.R_alloc | apply Kd.R_drewN | apply Kd.R_drew)); exact HO_5.out⟩, ⟨by (with_reducible repeat (first | apply Kd.Q_alloc | apply Kd.Q_drewN | apply Kd.Q_drew)); exact HO_6.out⟩, ⟨by (with_reducible repeat (first | refine blk_drewN ?_ _ | refine blk_drew ?_ | refine blk_alloc ?_ _)); exact BK220.out⟩, ⟨by (with_reducible repeat (first | refine blk_drewN ?_ _ | refine blk_drew ?_ | refine blk_alloc ?_ _)); exact BK229.out⟩, ⟨by repeat (first | (with_reducible first | exact HB.out | apply below_alloc | apply pw_below_drewN | apply below_drew1 | refine below_set ?_ GE220.out | refine below_set ?_ GE229.out | refine below_set ?_ GE234.out) | exact HB.out)⟩⟩
                        · rw [if_neg c27] at H
                          exact absurd H (by simp)
                      · rw [if_neg c26] at H
                        exact absurd H (by simp)
                    · rw [if_neg c25] at H
                      have c25b0 : decide (x30_2 < (((rd_T118 l0_0 (rd x6_1 0)).f4).length : Int)) = false := decide_eq_false c25
                      clear c25
                      have H' := Aside0.mk H
                      clear H
                      go_wp2
                      go_roundg k2
                      case measure => have := HK1.out; have := HK2.out; omega
                      case rel => exact ⟨(x5_2), (x6_2), H', ⟨by have := HK1.out; have := HK2.out; omega⟩, ⟨by (with_reducible repeat (first | apply Kd.R_alloc | apply Kd.R_drewN | apply Kd.R_drew)); exact HO_5.out⟩, ⟨by (with_reducible repeat (first | apply Kd.Q_alloc | apply Kd.Q_drewN | apply Kd.Q_drew)); exact HO_6.out⟩, ⟨by (with_reducible repeat (first | refine blk_drewN ?_ _ | refine blk_drew ?_ | refine blk_alloc ?_ _)); exact BK220.out⟩, ⟨by repeat (first | (with_reducible first | exact HB.out | apply below_alloc | apply pw_below_drewN | apply below_drew1 | refine below_set ?_ GE220.out | refine below_set ?_ GE229.out) | exact HB.out)⟩⟩
              · rw [if_neg c12] at H
                exact absurd H (by simp)
            · rw [if_neg c11] at H
              exact absurd H (by simp)
          · rw [if_neg c10] at H
            exact absurd H (by simp)
        · rw [if_neg c9] at H
          exact absurd H (by simp)
      · rw [if_neg c8] at H
        have c8b0 : decide (0 < (x6_1.length : Int)) = false := decide_eq_false c8
        have c8b1 : decide (0 < x6_1.length) = false := decide_eq_false (by omega)
        clear c8
        obtain rfl := Option.some.inj H
        obtain ⟨Ao54, co54, eo54, _⟩ := Kd.Q_slice HO_6.out
        subst eo54
        go_wp2
        go_ret
        exact ⟨_, by first | rfl | (simp [errW_none, errW_some] <;> rfl) | (simp [*, errW_none, errW_some] <;> rfl), by (with_reducible repeat (first | apply Kd.R_alloc | apply Kd.R_drewN | apply Kd.R_drew)); exact Kd.R_mono HO_5.out (fun _ hk => trivial), by repeat (first | (with_reducible first | exact HB.out | apply below_alloc | apply pw_below_drewN | apply below_drew1 | refine below_set ?_ GE220.out) | exact HB.out)⟩

end Go.Proofs.Ytlkbdoejeomlmaa.PFnExactAmbiguous
