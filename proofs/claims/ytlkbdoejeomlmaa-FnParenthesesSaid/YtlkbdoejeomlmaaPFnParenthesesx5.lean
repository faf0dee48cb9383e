/- Written by a program of this session out of Lean's print of the translation: what the calls of these Go functions come to, in plain Lean. No condition. -/
import Derived.Test.YtlkbdoejeomlmaaPFnParenthesesx0
import Derived.Test.YtlkbdoejeomlmaaPFnParenthesesx4
namespace Go.Proofs.Ytlkbdoejeomlmaa.PFnParentheses
open Go.RowKit Go.Proofs.YtlkbdoejeomlmaaW.PrintWords Go.Proofs.YtlkbdoejeomlmaaW.PrintLast Go.Proofs.YtlkbdoejeomlmaaW.PrintMore
attribute [local go_sem] max2_int min2_int max_two min_two max_three min_three max_four min_four   -- for this text's walks alone
set_option linter.unusedVariables false
set_option linter.unusedSimpArgs false

/-! ### impl_OpsOk: function 33 -/
mutual
def impl_OpsOk.l0 : Nat → List (S128) → List (S128) → Int → Int → Option (Bool)
  | 0, _, _, _, _ => none
  | k + 1, x0, x7, x8, x9 => if x9 < x8 then (if 0 ≤ x9 then (if x9 < (x7.length : Int) then (if (((rd_T128 x7 x9).f0).size : Int) = 1 then ((strings_Contains.f (⟨#[43, 45, 42, 94, 60, 62, 61, 44]⟩ : ByteArray) ((rd_T128 x7 x9).f0)).bind fun t203 => (if t203 = true then ((impl_within.f ((rd_T128 x7 x9).f1) 1 9).bind fun t204 => (impl_OpsOk.j1 k x0 x9 x7 x8 x9 (!t204) ((rd_T128 x7 x9).f0) ((rd_T128 x7 x9).f1) ((rd_T128 x7 x9).f2))) else (impl_OpsOk.j1 k x0 x9 x7 x8 x9 true ((rd_T128 x7 x9).f0) ((rd_T128 x7 x9).f1) ((rd_T128 x7 x9).f2)))) else (impl_OpsOk.j1 k x0 x9 x7 x8 x9 true ((rd_T128 x7 x9).f0) ((rd_T128 x7 x9).f1) ((rd_T128 x7 x9).f2))) else (none)) else (none)) else ((impl_within.f (x0.length : Int) 1 6).bind fun t200 => (some t200))
def impl_OpsOk.j1 : Nat → List (S128) → Int → List (S128) → Int → Int → Bool → ByteArray → Int → Bool → Option (Bool)
  | 0, _, _, _, _, _, _, _, _, _ => none
  | k + 1, x0, x3, x7, x8, x9, x29, x203000, x203001, x203002 => if x29 = true then (some false) else (if 0 ≤ x3 then (if x3 ≤ (x0.length : Int) then ((some (x0.take (x3 : Int).toNat : List (S128))).bind fun y205 => (impl_OpsOk.l1 k x0 x7 x8 x9 y205 (y205.length : Int) 0 x203000 x203001 x203002)) else (none)) else (none))
def impl_OpsOk.l1 : Nat → List (S128) → List (S128) → Int → Int → List (S128) → Int → Int → ByteArray → Int → Bool → Option (Bool)
  | 0, _, _, _, _, _, _, _, _, _, _ => none
  | k + 1, x0, x7, x8, x9, x32, x33, x34, x203000, x203001, x203002 => if x34 < x33 then (if 0 ≤ x34 then (if x34 < (x32.length : Int) then (if ((rd_T128 x32 x34).f0).toList = x203000.toList then (some false) else (if ((rd_T128 x32 x34).f1) = x203001 then (if (((rd_T128 x32 x34).f2) != x203002) = true then (some false) else (impl_OpsOk.l1 k x0 x7 x8 x9 x32 x33 (wrap64 (x34 + 1)) x203000 x203001 x203002)) else (impl_OpsOk.l1 k x0 x7 x8 x9 x32 x33 (wrap64 (x34 + 1)) x203000 x203001 x203002))) else (none)) else (none)) else (impl_OpsOk.l0 k x0 x7 x8 (wrap64 (x9 + 1)))
end
def impl_OpsOk.f (k : Nat) (l0 : List (S128)) : Option (Bool) := impl_OpsOk.l0 k l0 l0 (l0.length : Int) 0
theorem impl_OpsOk.mono_l : ∀ k, (∀ y0 y1 y2 y3, LeO (impl_OpsOk.l0 k y0 y1 y2 y3) (impl_OpsOk.l0 (k + 1) y0 y1 y2 y3)) ∧ (∀ y0 y1 y2 y3 y4 y5 y6 y7 y8, LeO (impl_OpsOk.j1 k y0 y1 y2 y3 y4 y5 y6 y7 y8) (impl_OpsOk.j1 (k + 1) y0 y1 y2 y3 y4 y5 y6 y7 y8)) ∧ (∀ y0 y1 y2 y3 y4 y5 y6 y7 y8 y9, LeO (impl_OpsOk.l1 k y0 y1 y2 y3 y4 y5 y6 y7 y8 y9) (impl_OpsOk.l1 (k + 1) y0 y1 y2 y3 y4 y5 y6 y7 y8 y9))
  | 0 => ⟨fun _ _ _ _ r h => by simp [impl_OpsOk.l0] at h, fun _ _ _ _ _ _ _ _ _ r h => by simp [impl_OpsOk.j1] at h, fun _ _ _ _ _ _ _ _ _ _ r h => by simp [impl_OpsOk.l1] at h⟩
  | k + 1 => by
    obtain ⟨ih0, ih1, ih2⟩ := impl_OpsOk.mono_l k
    refine ⟨?_, ?_, ?_⟩
    · intro y0 y1 y2 y3
      unfold impl_OpsOk.l0
      repeat' first
      | (with_reducible exact ih0 _ _ _ _)
      | (with_reducible exact ih1 _ _ _ _ _ _ _ _ _)
      | (with_reducible exact ih2 _ _ _ _ _ _ _ _ _ _)
      | (with_reducible exact LeO.refl _)
      | (with_reducible exact LeO.none _)
      | (with_reducible refine LeO.ite ?_ ?_)
      | (with_reducible refine LeO.bind ?_ (fun _ => ?_))
      | exact ih0 _ _ _ _
      | exact ih1 _ _ _ _ _ _ _ _ _
      | exact ih2 _ _ _ _ _ _ _ _ _ _
      | exact LeO.none _
      | refine LeO.ite ?_ ?_
      | refine LeO.bind ?_ (fun _ => ?_)
    · intro y0 y1 y2 y3 y4 y5 y6 y7 y8
      unfold impl_OpsOk.j1
      repeat' first
      | (with_reducible exact ih0 _ _ _ _)
      | (with_reducible exact ih1 _ _ _ _ _ _ _ _ _)
      | (with_reducible exact ih2 _ _ _ _ _ _ _ _ _ _)
      | (with_reducible exact LeO.refl _)
      | (with_reducible exact LeO.none _)
      | (with_reducible refine LeO.ite ?_ ?_)
      | (with_reducible refine LeO.bind ?_ (fun _ => ?_))
      | exact ih0 _ _ _ _
      | exact ih1 _ _ _ _ _ _ _ _ _
      | exact ih2 _ _ _ _ _ _ _ _ _ _
      | exact LeO.none _
      | refine LeO.ite ?_ ?_
      | refine LeO.bind ?_ (fun _ => ?_)
    · intro y0 y1 y2 y3 y4 y5 y6 y7 y8 y9
      unfold impl_OpsOk.l1
      repeat' first
      | (with_reducible exact ih0 _ _ _ _)
      | (with_reducible exact ih1 _ _ _ _ _ _ _ _ _)
      | (with_reducible exact ih2 _ _ _ _ _ _ _ _ _ _)
      | (with_reducible exact LeO.refl _)
      | (with_reducible exact LeO.none _)
      | (with_reducible refine LeO.ite ?_ ?_)
      | (with_reducible refine LeO.bind ?_ (fun _ => ?_))
      | exact ih0 _ _ _ _
      | exact ih1 _ _ _ _ _ _ _ _ _
      | exact ih2 _ _ _ _ _ _ _ _ _ _
      | exact LeO.none _
      | refine LeO.ite ?_ ?_
      | refine LeO.bind ?_ (fun _ => ?_)
theorem impl_OpsOk.mono : ∀ a0 k, LeO (impl_OpsOk.f k a0) (impl_OpsOk.f (k + 1) a0) := by
  intro a0 k
  obtain ⟨ih0, ih1, ih2⟩ := impl_OpsOk.mono_l k
  unfold impl_OpsOk.f
  repeat' first
      | (with_reducible exact ih0 _ _ _ _)
      | (with_reducible exact ih1 _ _ _ _ _ _ _ _ _)
      | (with_reducible exact ih2 _ _ _ _ _ _ _ _ _ _)
      | (with_reducible exact LeO.refl _)
      | (with_reducible exact LeO.none _)
      | (with_reducible refine LeO.ite ?_ ?_)
      | (with_reducible refine LeO.bind ?_ (fun _ => ?_))
      | exact ih0 _ _ _ _
      | exact ih1 _ _ _ _ _ _ _ _ _
      | exact ih2 _ _ _ _ _ _ _ _ _ _
      | exact LeO.none _
      | refine LeO.ite ?_ ?_
      | refine LeO.bind ?_ (fun _ => ?_)
set_option maxHeartbeats 8000000 in
set_option maxRecDepth 100000 in
theorem impl_OpsOk.calls (k : Nat) (A0 : Option Addr) (c0 : Nat) (l0 : List (S128)) (r : Bool) (w : World) (hr0 : Kd.C k128 w A0 l0.length l0) (hc0 : l0.length ≤ c0) (h : impl_OpsOk.f k l0 = some r) :
    Calls Try.prog 33 #[.slice A0 l0.length c0] w fun e w' => e = .returned (.bool r) ∧ Below w.heap.size w w' := by
  have hu128 := Try.underlying128
  have HR0 := Aside0.mk hr0
  have HC0 := Aside0.mk hc0
  clear hr0 hc0
  have HB := Aside0.mk (Below.refl w.heap.size w)
  have H : (impl_OpsOk.l0 k l0 l0 (l0.length : Int) 0) = some r := h
  clear h
  have H' := Aside0.mk H
  clear H
  go_enter Try.func33, Try.ntmps33
  go_wp2
  go_loopg [9] k (fun kq v9 w' => ∃ (x9_1 : Int), v9 = .int .i64 x9_1 ∧ Aside0 (impl_OpsOk.l0 kq l0 l0 (l0.length : Int) x9_1 = some r) ∧ Aside0 (kq ≤ k) ∧ Aside0 (Below w.heap.size w w'))
  case atStart => exact ⟨(0), (by first | rfl | (simp; done) | (simp [*]; done) | (simp [isE0, isE1]; done)), H', ⟨Nat.le_refl _⟩, ⟨by repeat (first | (with_reducible first | exact HB.out | apply below_alloc | apply pw_below_drewN | apply below_drew1) | exact HB.out)⟩⟩
  case round =>
    clear H'
    obtain ⟨x9_1, rfl, HA, HK1, HB⟩ := hrel
    cases gk with
    | zero => exact absurd HA.out (by simp [impl_OpsOk.l0])
    | succ k1 =>
      have H := HA.out
      clear HA
      simp only [impl_OpsOk.l0] at H
      by_cases c2 : x9_1 < (l0.length : Int)
      · rw [if_pos c2] at H
        have c2b0 : decide (x9_1 < (l0.length : Int)) = true := decide_eq_true c2
        clear c2
        by_cases c3 : 0 ≤ x9_1
        · rw [if_pos c3] at H
          have c3b0 : decide (0 ≤ x9_1) = true := decide_eq_true c3
          clear c3
          by_cases c4 : x9_1 < (l0.length : Int)
          · rw [if_pos c4] at H
            have c4b0 : decide (x9_1 < (l0.length : Int)) = true := decide_eq_true c4
            clear c4
            have HC5 := Aside0.mk H
            clear H
            have p201 : 0 ≤ (x9_1 : Int) := oa
            have q201 : x9_1 < (l0.length : Int) := oa
            obtain ⟨ad201, e201, hx201_0, hx201_1, hx201_2⟩ := at_T128 HR0.out x9_1 p201 q201
            cases e201
            replace hx201_0 := hbc HB.out hx201_0
            replace hx201_1 := hbc HB.out hx201_1
            replace hx201_2 := hbc HB.out hx201_2
            replace p201 := eq_true p201
            replace q201 := eq_true q201
            go_upto_region 4 with (first | ((with_reducible refine gate_dst (N := 4) rfl ?_); refine box_event ?hg (N := 4) ?hd (cs := #[.string (⟨#[]⟩ : ByteArray), .int .i64 0, .bool false]) (t := 128) ?hr ?_; (case hd => rfl); (case hg => rfl); (case hr => first | (go_simp; done) | (go_simp; rfl)); intro gb202 hg w6 hbox hb; have n0_ := Aside0.mk (below_step bw hb); have n1_ := Aside0.mk (hbox); have n2_ := Aside0.mk ((bz bw hg : w.heap.size ≤ gb202)); have n3_ := Aside0.mk ((bz bw hg : w.heap.size ≤ gb202)); clear HB; have HB := n0_; have BK202 := n1_; have GW202 := n2_; have GE202 := n3_; clear n0_ n1_ n2_ n3_; clear hb hbox hg; obtain ⟨hcz7_0, hcz7_1, hcz7_2, hfz7_0, hfz7_1, hfz7_2⟩ := bc3 BK202.out))
            (try simp only [Act.put, List.setIfInBounds_toArray, List.set_cons_zero, List.set_cons_succ])
            go_cut [29] (fun v29 wc => ∃ (kq : Nat) (x29_4 : Bool), v29 = .bool x29_4 ∧ Aside0 (impl_OpsOk.j1 kq l0 x9_1 l0 (l0.length : Int) x9_1 x29_4 ((rd_T128 l0 x9_1).f0) ((rd_T128 l0 x9_1).f1) ((rd_T128 l0 x9_1).f2) = some r) ∧ Aside0 (kq ≤ k1) ∧ Aside0 (wc.heap[gb202]? = some (.cells #[.string ((rd_T128 l0 x9_1).f0), .int .i64 ((rd_T128 l0 x9_1).f1), .bool ((rd_T128 l0 x9_1).f2)] 128 (0, 0))) ∧ Aside0 (Below w.heap.size w wc))
            case first =>
              have H := HC5.out
              clear HC5
              by_cases c8 : (((rd_T128 l0 x9_1).f0).size : Int) = 1
              · rw [if_pos c8] at H
                have c8b0 : ((((rd_T128 l0 x9_1).f0).size : Int) == 1) = true := beq_iff_eq.mpr c8
                have c8b1 : ((((rd_T128 l0 x9_1).f0).size : Int) != 1) = false := bne_eq_false_iff_eq.mpr c8
                clear c8
                (first | rw [c8b0] | (simp only [i64_w, i32_w]; rw [c8b0]) | skip)
                replace H := Option.bind_eq_some_iff.mp H
                obtain ⟨t203, A90, H⟩ := H
                replace H : (if t203 = true then ((impl_within.f ((rd_T128 l0 x9_1).f1) 1 9).bind fun t204 => (impl_OpsOk.j1 k1 l0 x9_1 l0 (l0.length : Int) x9_1 (!t204) ((rd_T128 l0 x9_1).f0) ((rd_T128 l0 x9_1).f1) ((rd_T128 l0 x9_1).f2))) else (impl_OpsOk.j1 k1 l0 x9_1 l0 (l0.length : Int) x9_1 true ((rd_T128 l0 x9_1).f0) ((rd_T128 l0 x9_1).f1) ((rd_T128 l0 x9_1).f2))) = some r := H
                have A9 := Aside0.mk A90
                clear A90
                by_cases c10 : t203 = true
                · subst c10
                  have H1 : ((impl_within.f ((rd_T128 l0 x9_1).f1) 1 9).bind fun t204 => (impl_OpsOk.j1 k1 l0 x9_1 l0 (l0.length : Int) x9_1 (!t204) ((rd_T128 l0 x9_1).f0) ((rd_T128 l0 x9_1).f1) ((rd_T128 l0 x9_1).f2))) = some r := by rw [if_pos rfl] at H; exact H
                  clear H
                  have H := H1
                  clear H1
                  replace H := Option.bind_eq_some_iff.mp H
                  obtain ⟨t204, A110, H⟩ := H
                  replace H : (impl_OpsOk.j1 k1 l0 x9_1 l0 (l0.length : Int) x9_1 (!t204) ((rd_T128 l0 x9_1).f0) ((rd_T128 l0 x9_1).f1) ((rd_T128 l0 x9_1).f2)) = some r := H
                  have A11 := Aside0.mk A110
                  clear A110
                  have H' := Aside0.mk H
                  clear H
                  obtain ⟨hcz12_0, hcz12_1, hcz12_2, hfz12_0, hfz12_1, hfz12_2⟩ := bc3 BK202.out
                  go_wp2_with (first | (go_at_call 85; (with_reducible refine (strings_Contains.calls (⟨#[43, 45, 42, 94, 60, 62, 61, 44]⟩ : ByteArray) ((rd_T128 l0 x9_1).f0) true _ A9.out).mono ?_); rintro e w' ⟨rfl, ⟨nd, rfl⟩⟩) | (go_at_call 86; (with_reducible refine (impl_within.calls ((rd_T128 l0 x9_1).f1) 1 9 t204 _ A11.out).mono ?_); rintro e w' ⟨rfl, ⟨nd, rfl⟩⟩))
                  go_meet
                  case rel => exact ⟨_, (!t204), (by first | rfl | (simp; done) | (simp [*]; done) | (simp [isE0, isE1]; done)), H', ⟨by have := HK1.out; first | omega | exact Nat.le_refl _⟩, ⟨by (with_reducible repeat (first | refine blk_drewN ?_ _ | refine blk_drew ?_ | refine blk_alloc ?_ _)); refine blk_put (cs := #[.string ((rd_T128 l0 x9_1).f0), .int .i64 ((rd_T128 l0 x9_1).f1), .bool false]) ?_ 2 _ rfl; (with_reducible repeat (first | refine blk_drewN ?_ _ | refine blk_drew ?_ | refine blk_alloc ?_ _)); refine blk_put (cs := #[.string ((rd_T128 l0 x9_1).f0), .int .i64 0, .bool false]) ?_ 1 _ rfl; (with_reducible repeat (first | refine blk_drewN ?_ _ | refine blk_drew ?_ | refine blk_alloc ?_ _)); refine blk_put (cs := #[.string (⟨#[]⟩ : ByteArray), .int .i64 0, .bool false]) ?_ 0 _ rfl; (with_reducible repeat (first | refine blk_drewN ?_ _ | refine blk_drew ?_ | refine blk_alloc ?_ _)); exact BK202.out⟩, ⟨by repeat (first | (with_reducible first | exact HB.out | apply below_alloc | apply pw_below_drewN | apply below_drew1 | refine below_set ?_ GE202.out) | exact HB.out)⟩⟩
                · replace c10 := Bool.eq_false_iff.mpr c10
                  subst c10
                  have H1 : (impl_OpsOk.j1 k1 l0 x9_1 l0 (l0.length : Int) x9_1 true ((rd_T128 l0 x9_1).f0) ((rd_T128 l0 x9_1).f1) ((rd_T128 l0 x9_1).f2)) = some r := by rw [if_neg (show ¬ (false = true) by decide)] at H; exact H
                  clear H
                  have H := H1
                  clear H1
                  have H' := Aside0.mk H
                  clear H
                  obtain ⟨hcz13_0, hcz13_1, hcz13_2, hfz13_0, hfz13_1, hfz13_2⟩ := bc3 BK202.out
                  go_wp2_with (first | (go_at_call 85; (with_reducible refine (strings_Contains.calls (⟨#[43, 45, 42, 94, 60, 62, 61, 44]⟩ : ByteArray) ((rd_T128 l0 x9_1).f0) false _ A9.out).mono ?_); rintro e w' ⟨rfl, ⟨nd, rfl⟩⟩))
                  go_meet
                  case rel => exact ⟨_, (true), (by first | rfl | (simp; done) | (simp [*]; done) | (simp [isE0, isE1]; done)), H', ⟨by have := HK1.out; first | omega | exact Nat.le_refl _⟩, ⟨by (with_reducible repeat (first | refine blk_drewN ?_ _ | refine blk_drew ?_ | refine blk_alloc ?_ _)); refine blk_put (cs := #[.string ((rd_T128 l0 x9_1).f0), .int .i64 ((rd_T128 l0 x9_1).f1), .bool false]) ?_ 2 _ rfl; (with_reducible repeat (first | refine blk_drewN ?_ _ | refine blk_drew ?_ | refine blk_alloc ?_ _)); refine blk_put (cs := #[.string ((rd_T128 l0 x9_1).f0), .int .i64 0, .bool false]) ?_ 1 _ rfl; (with_reducible repeat (first | refine blk_drewN ?_ _ | refine blk_drew ?_ | refine blk_alloc ?_ _)); refine blk_put (cs := #[.string (⟨#[]⟩ : ByteArray), .int .i64 0, .bool false]) ?_ 0 _ rfl; (with_reducible repeat (first | refine blk_drewN ?_ _ | refine blk_drew ?_ | refine blk_alloc ?_ _)); exact BK202.out⟩, ⟨by repeat (first | (with_reducible first | exact HB.out | apply below_alloc | apply pw_below_drewN | apply below_drew1 | refine below_set ?_ GE202.out) | exact HB.out)⟩⟩
              · rw [if_neg c8] at H
                have c8b0 : ((((rd_T128 l0 x9_1).f0).size : Int) == 1) = false := beq_eq_false_iff_ne.mpr c8
                have c8b1 : ((((rd_T128 l0 x9_1).f0).size : Int) != 1) = true := bne_iff_ne.mpr c8
                (first | rw [c8b0] | (simp only [i64_w, i32_w]; rw [c8b0]) | skip)
                have H' := Aside0.mk H
                clear H
                obtain ⟨hcz14_0, hcz14_1, hcz14_2, hfz14_0, hfz14_1, hfz14_2⟩ := bc3 BK202.out
                go_wp2
                go_meet
                case rel => exact ⟨_, (true), (by first | rfl | (simp; done) | (simp [*]; done) | (simp [isE0, isE1]; done)), H', ⟨by have := HK1.out; first | omega | exact Nat.le_refl _⟩, ⟨by (with_reducible repeat (first | refine blk_drewN ?_ _ | refine blk_drew ?_ | refine blk_alloc ?_ _)); refine blk_put (cs := #[.string ((rd_T128 l0 x9_1).f0), .int .i64 ((rd_T128 l0 x9_1).f1), .bool false]) ?_ 2 _ rfl; (with_reducible repeat (first | refine blk_drewN ?_ _ | refine blk_drew ?_ | refine blk_alloc ?_ _)); refine blk_put (cs := #[.string ((rd_T128 l0 x9_1).f0), .int .i64 0, .bool false]) ?_ 1 _ rfl; (with_reducible repeat (first | refine blk_drewN ?_ _ | refine blk_drew ?_ | refine blk_alloc ?_ _)); refine blk_put (cs := #[.string (⟨#[]⟩ : ByteArray), .int .i64 0, .bool false]) ?_ 0 _ rfl; (with_reducible repeat (first | refine blk_drewN ?_ _ | refine blk_drew ?_ | refine blk_alloc ?_ _)); exact BK202.out⟩, ⟨by repeat (first | (with_reducible first | exact HB.out | apply below_alloc | apply pw_below_drewN | apply below_drew1 | refine below_set ?_ GE202.out) | exact HB.out)⟩⟩
            case rest =>
              clear HC5
              try clear c1
              try clear c2
              try clear c2b0
              try clear p2
              try clear q2
              try clear hx2
              try clear c3
              try clear c3b0
              try clear c4
              try clear c4b0
              try clear c8
              try clear c8b0
              try clear c8b1
              try clear c10
              try clear hcz12_0
              try clear hcz12_1
              try clear hcz12_2
              try clear hcz13_0
              try clear hcz13_1
              try clear hcz13_2
              try clear hcz14_0
              try clear hcz14_1
              try clear hcz14_2
              try clear hcz7_0
              try clear hcz7_1
              try clear hcz7_2
              try clear hfz12_0
              try clear hfz12_1
              try clear hfz12_2
              try clear hfz13_0
              try clear hfz13_1
              try clear hfz13_2
              try clear hfz14_0
              try clear hfz14_1
              try clear hfz14_2
              try clear hfz7_0
              try clear hfz7_1
              try clear hfz7_2
              try clear hx201_0
              try clear hx201_1
              try clear hx201_2
              try clear p201
              try clear q201
              obtain ⟨kq, x29_4, rfl, HA, HJ4, BK202, HB⟩ := hcut
              cases kq with
              | zero => exact absurd HA.out (by simp [impl_OpsOk.j1])
              | succ kj4 =>
                have H := HA.out
                clear HA
                simp only [impl_OpsOk.j1] at H
                by_cases c15 : x29_4 = true
                · subst c15
                  have H1 : (some false) = some r := by rw [if_pos rfl] at H; exact H
                  clear H
                  have H := H1
                  clear H1
                  obtain rfl := Option.some.inj H
                  go_wp2
                  go_ret
                  exact ⟨by first | rfl | (simp [errW_none, errW_some] <;> rfl) | (simp [*, errW_none, errW_some] <;> rfl), by repeat (first | (with_reducible first | exact HB.out | apply below_alloc | apply pw_below_drewN | apply below_drew1 | refine below_set ?_ GE202.out) | exact HB.out)⟩
                · replace c15 := Bool.eq_false_iff.mpr c15
                  subst c15
                  have H1 : (if 0 ≤ x9_1 then (if x9_1 ≤ (l0.length : Int) then ((some (l0.take (x9_1 : Int).toNat : List (S128))).bind fun y205 => (impl_OpsOk.l1 kj4 l0 l0 (l0.length : Int) x9_1 y205 (y205.length : Int) 0 ((rd_T128 l0 x9_1).f0) ((rd_T128 l0 x9_1).f1) ((rd_T128 l0 x9_1).f2))) else (none)) else (none)) = some r := by rw [if_neg (show ¬ (false = true) by decide)] at H; exact H
                  clear H
                  have H := H1
                  clear H1
                  by_cases c16 : 0 ≤ x9_1
                  · rw [if_pos c16] at H
                    have c16b0 := eq_true c16
                    have c16b1 : decide (0 ≤ x9_1) = true := decide_eq_true c16
                    clear c16
                    by_cases c17 : x9_1 ≤ (l0.length : Int)
                    · rw [if_pos c17] at H
                      have c17b0 := eq_true c17
                      have c17b1 : decide (x9_1 ≤ (l0.length : Int)) = true := decide_eq_true c17
                      clear c17
                      obtain ⟨y205, hy205⟩ : ∃ y_ : List (S128), y_ = (l0.take (x9_1 : Int).toNat) := ⟨_, rfl⟩
                      replace H : (impl_OpsOk.l1 kj4 l0 l0 (l0.length : Int) x9_1 y205 (y205.length : Int) 0 ((rd_T128 l0 x9_1).f0) ((rd_T128 l0 x9_1).f1) ((rd_T128 l0 x9_1).f2)) = some r := by first | (rw [hy205]; with_reducible exact H) | (have H2_ := (Option.bind_some _ _).symm.trans H; rw [hy205]; with_reducible exact H2_) | (have H2_ := (Option.bind_some _ _).symm.trans H; with_reducible exact H2_) | with_reducible exact H | (rw [hy205]; exact H) | exact H
                      have Ny205 := Aside0.mk hy205
                      clear hy205
                      have H' := Aside0.mk H
                      clear H
                      have q18 : (x9_1 : Int) ≤ ((l0.length : Int) : Int) := oa
                      obtain ⟨i018, hi018, _, hsz18, _⟩ := info_parts info128
                      have hroom18 : l0.length ≤ c0 := HC0.out
                      have hC18 : Kd.C k128 _ (some ad201) l0.length l0 := HR0.out
                      have hcut18 := cut_to (P := Try.prog) 52 128 .i64 Try.underlying52 hi018 (some ad201) l0.length c0 x9_1 (oa) q18 hroom18
                      have hr18 := Kd.C_take (m := (x9_1 : Int).toNat) hC18 (by omega)
                      have hy18 : y205.length = (x9_1 : Int).toNat := (by rw [Ny205.out, List.length_take]; omega)
                      rw [← Ny205.out] at hr18
                      rw [← hy18] at hcut18
                      have HR208 := Aside0.mk hr18
                      have HC208 := Aside0.mk (show y205.length ≤ c0 from by omega)
                      clear hr18 hC18 hroom18 hi018 hsz18
                      have KY18 := Aside0.mk hy18
                      clear hy18
                      replace q18 := eq_true q18
                      go_wp2
                      go_loopg [34] kj4 (fun kq v34 w' => ∃ (x34_3 : Int), v34 = .int .i64 x34_3 ∧ Aside0 (impl_OpsOk.l1 kq l0 l0 (l0.length : Int) x9_1 y205 (y205.length : Int) x34_3 ((rd_T128 l0 x9_1).f0) ((rd_T128 l0 x9_1).f1) ((rd_T128 l0 x9_1).f2) = some r) ∧ Aside0 (kq ≤ kj4) ∧ Aside0 (w'.heap[gb202]? = some (.cells #[.string ((rd_T128 l0 x9_1).f0), .int .i64 ((rd_T128 l0 x9_1).f1), .bool ((rd_T128 l0 x9_1).f2)] 128 (0, 0))) ∧ Aside0 (Below w.heap.size w w'))
                      case atStart => exact ⟨(0), (by first | rfl | (simp; done) | (simp [*]; done) | (simp [isE0, isE1]; done)), H', ⟨Nat.le_refl _⟩, ⟨by (with_reducible repeat (first | refine blk_drewN ?_ _ | refine blk_drew ?_ | refine blk_alloc ?_ _)); exact BK202.out⟩, ⟨by repeat (first | (with_reducible first | exact HB.out | apply below_alloc | apply pw_below_drewN | apply below_drew1 | refine below_set ?_ GE202.out) | exact HB.out)⟩⟩
                      case round =>
                        clear H'
                        try clear c1
                        try clear q1
                        try clear c2
                        try clear c2b0
                        try clear p2
                        try clear q2
                        try clear hx2
                        try clear c3
                        try clear c3b0
                        try clear c4
                        try clear c4b0
                        try clear c8
                        try clear c8b0
                        try clear c8b1
                        try clear c10
                        try clear c15
                        try clear c16
                        try clear c16b0
                        try clear c16b1
                        try clear c17
                        try clear c17b0
                        try clear c17b1
                        try clear q18
                        try clear hcz12_0
                        try clear hcz12_1
                        try clear hcz12_2
                        try clear hcz13_0
                        try clear hcz13_1
                        try clear hcz13_2
                        try clear hcz14_0
                        try clear hcz14_1
                        try clear hcz14_2
                        try clear hcz7_0
                        try clear hcz7_1
                        try clear hcz7_2
                        try clear hfz12_0
                        try clear hfz12_1
                        try clear hfz12_2
                        try clear hfz13_0
                        try clear hfz13_1
                        try clear hfz13_2
                        try clear hfz14_0
                        try clear hfz14_1
                        try clear hfz14_2
                        try clear hfz7_0
                        try clear hfz7_1
                        try clear hfz7_2
                        try clear hx201_0
                        try clear hx201_1
                        try clear hx201_2
                        try clear p2
                        try clear p201
                        try clear q18
                        try clear q2
                        try clear q201
                        obtain ⟨x34_3, rfl, HA, HK3, BK202, HB⟩ := hrel
                        cases gk with
                        | zero => exact absurd HA.out (by simp [impl_OpsOk.l1])
                        | succ k3 =>
                          have H := HA.out
                          clear HA
                          simp only [impl_OpsOk.l1] at H
                          by_cases c19 : x34_3 < (y205.length : Int)
                          · rw [if_pos c19] at H
                            have c19b0 : decide (x34_3 < (y205.length : Int)) = true := decide_eq_true c19
                            clear c19
                            by_cases c20 : 0 ≤ x34_3
                            · rw [if_pos c20] at H
                              have c20b0 : decide (0 ≤ x34_3) = true := decide_eq_true c20
                              clear c20
                              by_cases c21 : x34_3 < (y205.length : Int)
                              · rw [if_pos c21] at H
                                have c21b0 : decide (x34_3 < (y205.length : Int)) = true := decide_eq_true c21
                                clear c21
                                by_cases c22 : ((rd_T128 y205 x34_3).f0).toList = ((rd_T128 l0 x9_1).f0).toList
                                · rw [if_pos c22] at H
                                  have c22b0 : (((rd_T128 y205 x34_3).f0).toList == ((rd_T128 l0 x9_1).f0).toList) = true := beq_iff_eq.mpr c22
                                  have c22b1 : (((rd_T128 y205 x34_3).f0).toList != ((rd_T128 l0 x9_1).f0).toList) = false := bne_eq_false_iff_eq.mpr c22
                                  clear c22
                                  obtain rfl := Option.some.inj H
                                  have p209 : 0 ≤ (x34_3 : Int) := oa
                                  have q209 : x34_3 < (y205.length : Int) := oa
                                  obtain ⟨ad209, e209, hx209_0, hx209_1, hx209_2⟩ := at_T128 HR208.out x34_3 p209 q209
                                  obtain rfl : ad201 = ad209 := (by injection e209)
                                  replace hx209_0 := hbc HB.out hx209_0
                                  replace hx209_1 := hbc HB.out hx209_1
                                  replace hx209_2 := hbc HB.out hx209_2
                                  replace p209 := eq_true p209
                                  replace q209 := eq_true q209
                                  go_wp2_with (first | ((with_reducible refine gate_dst (N := 6) rfl ?_); refine box_event ?hg (N := 6) ?hd (cs := #[.string (⟨#[]⟩ : ByteArray), .int .i64 0, .bool false]) (t := 128) ?hr ?_; (case hd => rfl); (case hg => rfl); (case hr => first | (go_simp; done) | (go_simp; rfl)); intro gb210 hg w23 hbox hb; have n0_ := Aside0.mk (blk_below (g := gb202) (o := .cells #[.string ((rd_T128 l0 x9_1).f0), .int .i64 ((rd_T128 l0 x9_1).f1), .bool ((rd_T128 l0 x9_1).f2)] 128 (0, 0)) bx hb); have n1_ := Aside0.mk (below_step bw hb); have n2_ := Aside0.mk (hbox); have n3_ := Aside0.mk ((bz bw hg : w.heap.size ≤ gb210)); have n4_ := Aside0.mk ((bz bw hg : w.heap.size ≤ gb210)); have n5_ := Aside0.mk ((bl bx hg : gb202 ≠ gb210)); have n6_ := Aside0.mk ((bl' bx hg : gb210 ≠ gb202)); clear BK202; clear HB; have BK202 := n0_; have HB := n1_; have BK210 := n2_; have GW210 := n3_; have GE210 := n4_; have NB202_210 := n5_; have NB210_202 := n6_; clear n0_ n1_ n2_ n3_ n4_ n5_ n6_; clear hb hbox hg; have hnb24 := NB210_202.out; have hnc24 := NB202_210.out; obtain ⟨hcz25_0, hcz25_1, hcz25_2, hfz25_0, hfz25_1, hfz25_2⟩ := bc3 BK210.out; obtain ⟨hcz26_0, hcz26_1, hcz26_2, hfz26_0, hfz26_1, hfz26_2⟩ := bc3 BK202.out))
                                  go_ret
                                  exact ⟨by first | rfl | (simp [errW_none, errW_some] <;> rfl) | (simp [*, errW_none, errW_some] <;> rfl), by repeat (first | (with_reducible first | exact HB.out | apply below_alloc | apply pw_below_drewN | apply below_drew1 | refine below_set ?_ GE202.out | refine below_set ?_ GE210.out) | exact HB.out)⟩
                                · rw [if_neg c22] at H
                                  have c22b0 : (((rd_T128 y205 x34_3).f0).toList == ((rd_T128 l0 x9_1).f0).toList) = false := beq_eq_false_iff_ne.mpr c22
                                  have c22b1 : (((rd_T128 y205 x34_3).f0).toList != ((rd_T128 l0 x9_1).f0).toList) = true := bne_iff_ne.mpr c22
                                  by_cases c27 : ((rd_T128 y205 x34_3).f1) = ((rd_T128 l0 x9_1).f1)
                                  · rw [if_pos c27] at H
                                    have c27b0 : (((rd_T128 y205 x34_3).f1) == ((rd_T128 l0 x9_1).f1)) = true := beq_iff_eq.mpr c27
                                    have c27b1 : (((rd_T128 y205 x34_3).f1) != ((rd_T128 l0 x9_1).f1)) = false := bne_eq_false_iff_eq.mpr c27
                                    clear c27
                                    by_cases c28 : (((rd_T128 y205 x34_3).f2) != ((rd_T128 l0 x9_1).f2)) = true
                                    · rw [if_pos c28] at H
                                      have c28b0 : (((rd_T128 y205 x34_3).f2) != ((rd_T128 l0 x9_1).f2)) = true := c28
                                      (try (have c28b1 : decide (((rd_T128 y205 x34_3).f2) = ((rd_T128 l0 x9_1).f2)) = false := by simpa using c28))
                                      (try (have c28b2 : (((rd_T128 y205 x34_3).f2) == ((rd_T128 l0 x9_1).f2)) = false := by simpa using c28))
                                      (try (have c28b3 : ¬ (((rd_T128 y205 x34_3).f2) = ((rd_T128 l0 x9_1).f2)) := by simpa using c28))
                                      clear c28
                                      obtain rfl := Option.some.inj H
                                      have p209 : 0 ≤ (x34_3 : Int) := oa
                                      have q209 : x34_3 < (y205.length : Int) := oa
                                      obtain ⟨ad209, e209, hx209_0, hx209_1, hx209_2⟩ := at_T128 HR208.out x34_3 p209 q209
                                      obtain rfl : ad201 = ad209 := (by injection e209)
                                      replace hx209_0 := hbc HB.out hx209_0
                                      replace hx209_1 := hbc HB.out hx209_1
                                      replace hx209_2 := hbc HB.out hx209_2
                                      replace p209 := eq_true p209
                                      replace q209 := eq_true q209
                                      go_wp2_with (first | ((with_reducible refine gate_dst (N := 6) rfl ?_); refine box_event ?hg (N := 6) ?hd (cs := #[.string (⟨#[]⟩ : ByteArray), .int .i64 0, .bool false]) (t := 128) ?hr ?_; (case hd => rfl); (case hg => rfl); (case hr => first | (go_simp; done) | (go_simp; rfl)); intro gb210 hg w29 hbox hb; have n0_ := Aside0.mk (blk_below (g := gb202) (o := .cells #[.string ((rd_T128 l0 x9_1).f0), .int .i64 ((rd_T128 l0 x9_1).f1), .bool ((rd_T128 l0 x9_1).f2)] 128 (0, 0)) bx hb); have n1_ := Aside0.mk (below_step bw hb); have n2_ := Aside0.mk (hbox); have n3_ := Aside0.mk ((bz bw hg : w.heap.size ≤ gb210)); have n4_ := Aside0.mk ((bz bw hg : w.heap.size ≤ gb210)); have n5_ := Aside0.mk ((bl bx hg : gb202 ≠ gb210)); have n6_ := Aside0.mk ((bl' bx hg : gb210 ≠ gb202)); clear BK202; clear HB; have BK202 := n0_; have HB := n1_; have BK210 := n2_; have GW210 := n3_; have GE210 := n4_; have NB202_210 := n5_; have NB210_202 := n6_; clear n0_ n1_ n2_ n3_ n4_ n5_ n6_; clear hb hbox hg; have hnb30 := NB210_202.out; have hnc30 := NB202_210.out; obtain ⟨hcz31_0, hcz31_1, hcz31_2, hfz31_0, hfz31_1, hfz31_2⟩ := bc3 BK210.out; obtain ⟨hcz32_0, hcz32_1, hcz32_2, hfz32_0, hfz32_1, hfz32_2⟩ := bc3 BK202.out))
                                      go_ret
                                      exact ⟨by first | rfl | (simp [errW_none, errW_some] <;> rfl) | (simp [*, errW_none, errW_some] <;> rfl), by repeat (first | (with_reducible first | exact HB.out | apply below_alloc | apply pw_below_drewN | apply below_drew1 | refine below_set ?_ GE202.out | refine below_set ?_ GE210.out) | exact HB.out)⟩
                                    · rw [if_neg c28] at H
                                      have c28b0 : (((rd_T128 y205 x34_3).f2) != ((rd_T128 l0 x9_1).f2)) = false := by simpa using c28
                                      (try (have c28b1 : decide (((rd_T128 y205 x34_3).f2) = ((rd_T128 l0 x9_1).f2)) = true := by simpa using c28))
                                      (try (have c28b2 : (((rd_T128 y205 x34_3).f2) == ((rd_T128 l0 x9_1).f2)) = true := by simpa using c28))
                                      clear c28
                                      have H' := Aside0.mk H
                                      clear H
                                      have p209 : 0 ≤ (x34_3 : Int) := oa
                                      have q209 : x34_3 < (y205.length : Int) := oa
                                      obtain ⟨ad209, e209, hx209_0, hx209_1, hx209_2⟩ := at_T128 HR208.out x34_3 p209 q209
                                      obtain rfl : ad201 = ad209 := (by injection e209)
                                      replace hx209_0 := hbc HB.out hx209_0
                                      replace hx209_1 := hbc HB.out hx209_1
                                      replace hx209_2 := hbc HB.out hx209_2
                                      replace p209 := eq_true p209
                                      replace q209 := eq_true q209
                                      go_wp2_with (first | ((with_reducible refine gate_dst (N := 6) rfl ?_); refine box_event ?hg (N := 6) ?hd (cs := #[.string (⟨#[]⟩ : ByteArray), .int .i64 0, .bool false]) (t := 128) ?hr ?_; (case hd => rfl); (case hg => rfl); (case hr => first | (go_simp; done) | (go_simp; rfl)); intro gb210 hg w33 hbox hb; have n0_ := Aside0.mk (blk_below (g := gb202) (o := .cells #[.string ((rd_T128 l0 x9_1).f0), .int .i64 ((rd_T128 l0 x9_1).f1), .bool ((rd_T128 l0 x9_1).f2)] 128 (0, 0)) bx hb); have n1_ := Aside0.mk (below_step bw hb); have n2_ := Aside0.mk (hbox); have n3_ := Aside0.mk ((bz bw hg : w.heap.size ≤ gb210)); have n4_ := Aside0.mk ((bz bw hg : w.heap.size ≤ gb210)); have n5_ := Aside0.mk ((bl bx hg : gb202 ≠ gb210)); have n6_ := Aside0.mk ((bl' bx hg : gb210 ≠ gb202)); clear BK202; clear HB; have BK202 := n0_; have HB := n1_; have BK210 := n2_; have GW210 := n3_; have GE210 := n4_; have NB202_210 := n5_; have NB210_202 := n6_; clear n0_ n1_ n2_ n3_ n4_ n5_ n6_; clear hb hbox hg; have hnb34 := NB210_202.out; have hnc34 := NB202_210.out; obtain ⟨hcz35_0, hcz35_1, hcz35_2, hfz35_0, hfz35_1, hfz35_2⟩ := bc3 BK210.out; obtain ⟨hcz36_0, hcz36_1, hcz36_2, hfz36_0, hfz36_1, hfz36_2⟩ := bc3 BK202.out))
                                      go_roundg k3
                                      case measure => have := HK1.out; have := HJ4.out; have := HK3.out; omega
                                      case rel => exact ⟨(wrap64 (x34_3 + 1)), (by first | rfl | (simp; done) | (simp [*]; done) | (simp [isE0, isE1]; done)), H', ⟨by have := HK1.out; have := HJ4.out; have := HK3.out; omega⟩, ⟨by (with_reducible repeat (first | refine blk_drewN ?_ _ | refine blk_drew ?_ | refine blk_alloc ?_ _)); refine blk_far ?_ NB202_210.out _; (with_reducible repeat (first | refine blk_drewN ?_ _ | refine blk_drew ?_ | refine blk_alloc ?_ _)); refine blk_far ?_ NB202_210.out _; (with_reducible repeat (first | refine blk_drewN ?_ _ | refine blk_drew ?_ | refine blk_alloc ?_ _)); refine blk_far ?_ NB202_210.out _; (with_reducible repeat (first | refine blk_drewN ?_ _ | refine blk_drew ?_ | refine blk_alloc ?_ _)); exact BK202.out⟩, ⟨by repeat (first | (with_reducible first | exact HB.out | apply below_alloc | apply pw_below_drewN | apply below_drew1 | refine below_set ?_ GE202.out | refine below_set ?_ GE210.out) | exact HB.out)⟩⟩
                                  · rw [if_neg c27] at H
                                    have c27b0 : (((rd_T128 y205 x34_3).f1) == ((rd_T128 l0 x9_1).f1)) = false := beq_eq_false_iff_ne.mpr c27
                                    have c27b1 : (((rd_T128 y205 x34_3).f1) != ((rd_T128 l0 x9_1).f1)) = true := bne_iff_ne.mpr c27
                                    have H' := Aside0.mk H
                                    clear H
                                    have p209 : 0 ≤ (x34_3 : Int) := oa
                                    have q209 : x34_3 < (y205.length : Int) := oa
                                    obtain ⟨ad209, e209, hx209_0, hx209_1, hx209_2⟩ := at_T128 HR208.out x34_3 p209 q209
                                    obtain rfl : ad201 = ad209 := (by injection e209)
                                    replace hx209_0 := hbc HB.out hx209_0
                                    replace hx209_1 := hbc HB.out hx209_1
                                    replace hx209_2 := hbc HB.out hx209_2
                                    replace p209 := eq_true p209
                                    replace q209 := eq_true q209
                                    go_wp2_with (first | ((with_reducible refine gate_dst (N := 6) rfl ?_); refine box_event ?hg (N := 6) ?hd (cs := #[.string (⟨#[]⟩ : ByteArray), .int .i64 0, .bool false]) (t := 128) ?hr ?_; (case hd => rfl); (case hg => rfl); (case hr => first | (go_simp; done) | (go_simp; rfl)); intro gb210 hg w37 hbox hb; have n0_ := Aside0.mk (blk_below (g := gb202) (o := .cells #[.string ((rd_T128 l0 x9_1).f0), .int .i64 ((rd_T128 l0 x9_1).f1), .bool ((rd_T128 l0 x9_1).f2)] 128 (0, 0)) bx hb); have n1_ := Aside0.mk (below_step bw hb); have n2_ := Aside0.mk (hbox); have n3_ := Aside0.mk ((bz bw hg : w.heap.size ≤ gb210)); have n4_ := Aside0.mk ((bz bw hg : w.heap.size ≤ gb210)); have n5_ := Aside0.mk ((bl bx hg : gb202 ≠ gb210)); have n6_ := Aside0.mk ((bl' bx hg : gb210 ≠ gb202)); clear BK202; clear HB; have BK202 := n0_; have HB := n1_; have BK210 := n2_; have GW210 := n3_; have GE210 := n4_; have NB202_210 := n5_; have NB210_202 := n6_; clear n0_ n1_ n2_ n3_ n4_ n5_ n6_; clear hb hbox hg; have hnb38 := NB210_202.out; have hnc38 := NB202_210.out; obtain ⟨hcz39_0, hcz39_1, hcz39_2, hfz39_0, hfz39_1, hfz39_2⟩ := bc3 BK210.out; obtain ⟨hcz40_0, hcz40_1, hcz40_2, hfz40_0, hfz40_1, hfz40_2⟩ := bc3 BK202.out))
                                    go_roundg k3
                                    case measure => have := HK1.out; have := HJ4.out; have := HK3.out; omega
                                    case rel => exact ⟨(wrap64 (x34_3 + 1)), (by first | rfl | (simp; done) | (simp [*]; done) | (simp [isE0, isE1]; done)), H', ⟨by have := HK1.out; have := HJ4.out; have := HK3.out; omega⟩, ⟨by (with_reducible repeat (first | refine blk_drewN ?_ _ | refine blk_drew ?_ | refine blk_alloc ?_ _)); refine blk_far ?_ NB202_210.out _; (with_reducible repeat (first | refine blk_drewN ?_ _ | refine blk_drew ?_ | refine blk_alloc ?_ _)); refine blk_far ?_ NB202_210.out _; (with_reducible repeat (first | refine blk_drewN ?_ _ | refine blk_drew ?_ | refine blk_alloc ?_ _)); refine blk_far ?_ NB202_210.out _; (with_reducible repeat (first | refine blk_drewN ?_ _ | refine blk_drew ?_ | refine blk_alloc ?_ _)); exact BK202.out⟩, ⟨by repeat (first | (with_reducible first | exact HB.out | apply below_alloc | apply pw_below_drewN | apply below_drew1 | refine below_set ?_ GE202.out | refine below_set ?_ GE210.out) | exact HB.out)⟩⟩
                              · rw [if_neg c21] at H
                                exact absurd H (by simp)
                            · rw [if_neg c20] at H
                              exact absurd H (by simp)
                          · rw [if_neg c19] at H
                            have c19b0 : decide (x34_3 < (y205.length : Int)) = false := decide_eq_false c19
                            clear c19
                            have H' := Aside0.mk H
                            clear H
                            go_wp2
                            go_roundg k3
                            case measure => have := HK1.out; have := HJ4.out; have := HK3.out; omega
                            case rel => exact ⟨(wrap64 (x9_1 + 1)), (by first | rfl | (simp; done) | (simp [*]; done) | (simp [isE0, isE1]; done)), H', ⟨by have := HK1.out; have := HJ4.out; have := HK3.out; omega⟩, ⟨by repeat (first | (with_reducible first | exact HB.out | apply below_alloc | apply pw_below_drewN | apply below_drew1 | refine below_set ?_ GE202.out) | exact HB.out)⟩⟩
                    · rw [if_neg c17] at H
                      exact absurd H (by simp)
                  · rw [if_neg c16] at H
                    exact absurd H (by simp)
          · rw [if_neg c4] at H
            exact absurd H (by simp)
        · rw [if_neg c3] at H
          exact absurd H (by simp)
      · rw [if_neg c2] at H
        have c2b0 : decide (x9_1 < (l0.length : Int)) = false := decide_eq_false c2
        clear c2
        replace H := Option.bind_eq_some_iff.mp H
        obtain ⟨t200, A410, H⟩ := H
        replace H : (some t200) = some r := H
        have A41 := Aside0.mk A410
        clear A410
        obtain rfl := Option.some.inj H
        go_wp2_with (first | ((with_reducible refine gate_callee (f := 86) rfl ?_); refine goesL_ (some 61) rfl rfl Try.func86 (by kernel_rfl) rfl #[.int .i64 (l0.length : Int), .int .i64 1, .int .i64 6] rfl (by (try simp only [List.map_toArray, List.map_cons, List.map_nil]); first | done | rfl | (simp only [List.length_drop, List.length_take]; rfl)) ?_; (with_reducible refine (impl_within.calls (l0.length : Int) 1 6 t200 _ A41.out).mono ?_); rintro e w' ⟨rfl, ⟨nd, rfl⟩⟩; refine ⟨_, rfl, ?_⟩))
        go_ret
        exact ⟨by first | rfl | (simp [errW_none, errW_some] <;> rfl) | (simp [*, errW_none, errW_some] <;> rfl), by repeat (first | (with_reducible first | exact HB.out | apply below_alloc | apply pw_below_drewN | apply below_drew1) | exact HB.out)⟩

/-! ### stringslite_HasPrefix: function 214 -/
def stringslite_HasPrefix.f (a0 : ByteArray) (a1 : ByteArray) : Option (Bool) := if (a0.size : Int) ≥ (a1.size : Int) then (if 0 ≤ (a1.size : Int) then (if (a1.size : Int) ≤ (a0.size : Int) then (some ((a0.extract 0 ((a1.size : Int) : Int).toNat).toList == a1.toList)) else (none)) else (none)) else (some false)
set_option maxHeartbeats 8000000 in
set_option maxRecDepth 100000 in
theorem stringslite_HasPrefix.calls (a0 : ByteArray) (a1 : ByteArray) (r : Bool) (w : World) (h : stringslite_HasPrefix.f a0 a1 = some r) :
    Calls Try.prog 214 #[.string a0, .string a1] w fun e w' => e = .returned (.bool r) ∧ Drawn0 w w' := by
  have H : (if (a0.size : Int) ≥ (a1.size : Int) then (if 0 ≤ (a1.size : Int) then (if (a1.size : Int) ≤ (a0.size : Int) then (some ((a0.extract 0 ((a1.size : Int) : Int).toNat).toList == a1.toList)) else (none)) else (none)) else (some false)) = some r := h
  clear h
  by_cases c3 : (a0.size : Int) ≥ (a1.size : Int)
  · rw [if_pos c3] at H
    have c3b0 : decide ((a1.size : Int) ≤ (a0.size : Int)) = true := decide_eq_true c3
    have c3b1 : decide (a1.size ≤ a0.size) = true := decide_eq_true (Int.ofNat_le.mp c3)
    clear c3
    by_cases c4 : 0 ≤ (a1.size : Int)
    · rw [if_pos c4] at H
      have c4b0 := eq_true c4
      have c4b1 : decide (0 ≤ (a1.size : Int)) = true := decide_eq_true c4
      clear c4
      by_cases c5 : (a1.size : Int) ≤ (a0.size : Int)
      · rw [if_pos c5] at H
        have c5b0 := eq_true c5
        have c5b1 : decide ((a1.size : Int) ≤ (a0.size : Int)) = true := decide_eq_true c5
        clear c5
        obtain rfl := Option.some.inj H
        go_enter Try.func214, Try.ntmps214
        go_wp2
        go_ret
        exact ⟨by first | rfl | (simp; done) | (simp [*]; done) | (simp [isE0, isE1]; done), by repeat (first | exact Drawn0.refl _ | apply Drawn0.step)⟩
      · rw [if_neg c5] at H
        exact absurd H (by simp)
    · rw [if_neg c4] at H
      exact absurd H (by simp)
  · rw [if_neg c3] at H
    have c3b0 : decide ((a1.size : Int) ≤ (a0.size : Int)) = false := decide_eq_false c3
    have c3b1 : decide (a1.size ≤ a0.size) = false := decide_eq_false (fun h => c3 (Int.ofNat_le.mpr h))
    clear c3
    obtain rfl := Option.some.inj H
    go_enter Try.func214, Try.ntmps214
    go_wp2
    go_ret
    exact ⟨by first | rfl | (simp; done) | (simp [*]; done) | (simp [isE0, isE1]; done), by repeat (first | exact Drawn0.refl _ | apply Drawn0.step)⟩

/-! ### strings_HasPrefix: function 184 -/
def strings_HasPrefix.f (a0 : ByteArray) (a1 : ByteArray) : Option (Bool) := (stringslite_HasPrefix.f a0 a1).bind fun t211 => (some t211)
set_option maxHeartbeats 8000000 in
set_option maxRecDepth 100000 in
theorem strings_HasPrefix.calls (a0 : ByteArray) (a1 : ByteArray) (r : Bool) (w : World) (h : strings_HasPrefix.f a0 a1 = some r) :
    Calls Try.prog 184 #[.string a0, .string a1] w fun e w' => e = .returned (.bool r) ∧ Drawn0 w w' := by
  have H : ((stringslite_HasPrefix.f a0 a1).bind fun t211 => (some t211)) = some r := h
  clear h
  replace H := Option.bind_eq_some_iff.mp H
  obtain ⟨t211, A30, H⟩ := H
  replace H : (some t211) = some r := H
  have A3 := Aside0.mk A30
  clear A30
  obtain rfl := Option.some.inj H
  go_enter Try.func184, Try.ntmps184
  go_wp2_with (first | ((with_reducible refine gate_callee (f := 214) rfl ?_); refine goesL_ (some 7) rfl rfl Try.func214 (by kernel_rfl) rfl #[.string a0, .string a1] rfl (by (try simp only [List.map_toArray, List.map_cons, List.map_nil]); first | done | rfl | (simp only [List.length_drop, List.length_take]; rfl)) ?_; (with_reducible refine (stringslite_HasPrefix.calls a0 a1 t211 _ A3.out).mono ?_); rintro e w' ⟨rfl, ⟨nd, rfl⟩⟩; refine ⟨_, rfl, ?_⟩))
  go_ret
  exact ⟨by first | rfl | (simp; done) | (simp [*]; done) | (simp [isE0, isE1]; done), by repeat (first | exact Drawn0.refl _ | apply Drawn0.step)⟩

/-- A state of type 126 at block g of W; what its slices lead to came in by w0. -/
def IsS126 (w0 W : World) (g : Nat) (f0 : List (S128)) (f1 : ByteArray) (f2 : Bool) : Prop := ∃ A0 c0, W.heap[g]? = some (.cells #[.slice A0 f0.length c0, .string f1, .bool f2] 126 (0, 0)) ∧ w0.heap.size ≤ g ∧ Kd.C k128 w0 A0 f0.length f0
theorem IsS126.grown {w0 W : World} {g : Nat} {f0 : List (S128)} {f1 : ByteArray} {f2 : Bool} {W1 : World} {row : Option Nat} (h : IsS126 w0 W g f0 f1 f2) (hw : W.grownBy W1 row) (hne : some g ≠ row) : IsS126 w0 W1 g f0 f1 f2 := by
  obtain ⟨A0, c0, hb, hg, hr0⟩ := h
  exact ⟨A0, c0, blk_grown hb hw hne, hg, hr0⟩
theorem IsS126.own_neN {w0 W : World} {g : Nat} {f0 : List (S128)} {f1 : ByteArray} {f2 : Bool} {α : Type} {d : Kd α} {e : Nat} {base : Nat} {ok : Nat → Prop} {v : Value} {xs : List α} (h : IsS126 w0 W g f0 f1 f2) (ho : Kd.N d e W base ok v xs) (ht : e ≠ 126) : some g ≠ v.ownBlock := by
  obtain ⟨A0, c0, hb, hg, hr0⟩ := h
  exact Kd.N_ne ho hb ht
theorem IsS126.fresh {w0 W : World} {g : Nat} {f0 : List (S128)} {f1 : ByteArray} {f2 : Bool} (h : IsS126 w0 W g f0 f1 f2) : ∀ k, W.heap.size ≤ k → k ≠ g := by
  obtain ⟨A0, c0, hb, hg, hr0⟩ := h
  exact Kd.freshB hb
theorem IsS126.kept {w0 W : World} {g : Nat} {f0 : List (S128)} {f1 : ByteArray} {f2 : Bool} {W1 : World} {S : Nat → Prop} (h : IsS126 w0 W g f0 f1 f2) (hk : Kept W W1 S) (hne : ¬ S g) : IsS126 w0 W1 g f0 f1 f2 := by
  obtain ⟨A0, c0, hb, hg, hr0⟩ := h
  exact ⟨A0, c0, blk_kept hb hk hne, hg, hr0⟩
theorem IsS126.below {w0 W : World} {g : Nat} {f0 : List (S128)} {f1 : ByteArray} {f2 : Bool} {W1 : World} (h : IsS126 w0 W g f0 f1 f2) (hw : Below W.heap.size W W1) : IsS126 w0 W1 g f0 f1 f2 := h.grown (grown_of_below hw none) (by simp)
theorem IsS126.alloc {w0 W : World} {g : Nat} {f0 : List (S128)} {f1 : ByteArray} {f2 : Bool} (h : IsS126 w0 W g f0 f1 f2) (o : Obj) : IsS126 w0 (W.alloc o) g f0 f1 f2 := h.below (below_alloc (Below.refl _ _) o)
theorem IsS126.drewN {w0 W : World} {g : Nat} {f0 : List (S128)} {f1 : ByteArray} {f2 : Bool} (h : IsS126 w0 W g f0 f1 f2) (m : Nat) : IsS126 w0 (W.drewN m) g f0 f1 f2 := h
theorem IsS126.drew {w0 W : World} {g : Nat} {f0 : List (S128)} {f1 : ByteArray} {f2 : Bool} (h : IsS126 w0 W g f0 f1 f2) : IsS126 w0 W.drew g f0 f1 f2 := h
theorem IsS126.at_ {w0 W : World} {g : Nat} {f0 : List (S128)} {f1 : ByteArray} {f2 : Bool} {w' : World} {m : Nat} (hq : W.drewN m = w') (h : IsS126 w0 W g f0 f1 f2) : IsS126 w0 w' g f0 f1 f2 := by subst hq; exact IsS126.drewN h m
theorem IsS126.apart {w0 W : World} {g : Nat} {f0 : List (S128)} {f1 : ByteArray} {f2 : Bool} {α : Type} {d : Kd α} {e : Nat} {base : Nat} {ok : Nat → Prop} {v : Value} {xs : List α} (h : IsS126 w0 W g f0 f1 f2) (ho : d.R e W base ok v xs) (ht : ∀ q, q ∈ e :: d.E → q ≠ 126) : d.R e W base (fun k => ok k ∧ k ≠ g) v xs := by
  obtain ⟨A0, c0, hb, hg, hr0⟩ := h
  exact Kd.R_types ho hb ht
theorem IsS126.own_ne {w0 W : World} {g : Nat} {f0 : List (S128)} {f1 : ByteArray} {f2 : Bool} {α : Type} {d : Kd α} {e : Nat} {base : Nat} {ok : Nat → Prop} {v : Value} {xs : List α} (h : IsS126 w0 W g f0 f1 f2) (ho : d.R e W base ok v xs) (ht : e ≠ 126) : some g ≠ v.ownBlock := by
  obtain ⟨A0, c0, hb, hg, hr0⟩ := h
  exact Kd.R_ne ho hb ht
theorem IsS126.apartQ {w0 W : World} {g : Nat} {f0 : List (S128)} {f1 : ByteArray} {f2 : Bool} {α : Type} {d : Kd α} {e : Nat} {base : Nat} {ok : Nat → Prop} {v : Value} {xs : List α} (h : IsS126 w0 W g f0 f1 f2) (ho : d.Q e W base ok v xs) (ht : ∀ q, q ∈ e :: d.E → q ≠ 126) : d.Q e W base (fun k => ok k ∧ k ≠ g) v xs := by
  obtain ⟨A0, c0, hb, hg, hr0⟩ := h
  exact Kd.Q_types ho hb ht
theorem IsS126.own_neQ {w0 W : World} {g : Nat} {f0 : List (S128)} {f1 : ByteArray} {f2 : Bool} {α : Type} {d : Kd α} {e : Nat} {base : Nat} {ok : Nat → Prop} {v : Value} {xs : List α} (h : IsS126 w0 W g f0 f1 f2) (ho : d.Q e W base ok v xs) (ht : e ≠ 126) : some g ≠ v.ownBlock := by
  obtain ⟨A0, c0, hb, hg, hr0⟩ := h
  exact Kd.Q_ne ho hb ht
theorem IsS126.apartS {w0 W : World} {g : Nat} {f0 : List (S128)} {f1 : ByteArray} {f2 : Bool} {α : Type} {d : Kd α} {e : Nat} {base : Nat} {ok : Nat → Prop} {v : Value} {xs : List α} (h : IsS126 w0 W g f0 f1 f2) (ho : d.S e W base ok v xs) (ht : ∀ q, q ∈ e :: d.E → q ≠ 126) : d.S e W base (fun k => ok k ∧ k ≠ g) v xs := by
  obtain ⟨A0, c0, hb, hg, hr0⟩ := h
  exact Kd.S_types ho hb ht
theorem IsS126.own_neS {w0 W : World} {g : Nat} {f0 : List (S128)} {f1 : ByteArray} {f2 : Bool} {α : Type} {d : Kd α} {e : Nat} {base : Nat} {ok : Nat → Prop} {v : Value} {xs : List α} (h : IsS126 w0 W g f0 f1 f2) (ho : d.S e W base ok v xs) (ht : e ≠ 126) : some g ≠ v.ownBlock := by
  obtain ⟨A0, c0, hb, hg, hr0⟩ := h
  exact Kd.S_ne ho hb ht
theorem IsS126.lt {w0 W : World} {g : Nat} {f0 : List (S128)} {f1 : ByteArray} {f2 : Bool} (h : IsS126 w0 W g f0 f1 f2) : g < W.heap.size := by
  obtain ⟨A0, c0, hb, hg, hr0⟩ := h
  exact blk_lt hb
theorem IsS126.ge {w0 W : World} {g : Nat} {f0 : List (S128)} {f1 : ByteArray} {f2 : Bool} (h : IsS126 w0 W g f0 f1 f2) : w0.heap.size ≤ g := by
  obtain ⟨A0, c0, hb, hg, hr0⟩ := h
  exact hg
theorem IsS126.ne_blk {w0 W : World} {g : Nat} {f0 : List (S128)} {f1 : ByteArray} {f2 : Bool} {a : Nat} {cs : Array Value} {t : TypeId} {fr : Nat × Nat} (h : IsS126 w0 W g f0 f1 f2) (hb2 : W.heap[a]? = some (.cells cs t fr)) (ht : t ≠ 126) : g ≠ a := by
  obtain ⟨A0, c0, hb, hg, hr0⟩ := h
  rintro rfl
  rw [hb] at hb2
  injection hb2 with hb2
  injection hb2 with _ ht2
  exact ht ht2.symm
theorem IsS126.far {w0 W : World} {g : Nat} {f0 : List (S128)} {f1 : ByteArray} {f2 : Bool} {p : Addr} (h : IsS126 w0 W g f0 f1 f2) (hne : g ≠ p.block) (u : Value) : IsS126 w0 (W.setCell p u) g f0 f1 f2 := by
  obtain ⟨A0, c0, hb, hg, hr0⟩ := h
  exact ⟨A0, c0, blk_far hb hne u, hg, hr0⟩
theorem cellS126_0 {W : World} {g : Nat} {A0 : Option Addr} {c0 : Nat} {f0 : List (S128)} {f1 : ByteArray} {f2 : Bool} (h : W.heap[g]? = some (.cells #[.slice A0 f0.length c0, .string f1, .bool f2] 126 (0, 0))) : W.cell? ⟨g, 0, none⟩ = some (.slice A0 f0.length c0) := (blk_cell h 0).trans rfl
theorem cellS126_1 {W : World} {g : Nat} {A0 : Option Addr} {c0 : Nat} {f0 : List (S128)} {f1 : ByteArray} {f2 : Bool} (h : W.heap[g]? = some (.cells #[.slice A0 f0.length c0, .string f1, .bool f2] 126 (0, 0))) : W.cell? ⟨g, 1, none⟩ = some (.string f1) := (blk_cell h 1).trans rfl
theorem IsS126.set_1 {w0 W : World} {g : Nat} {f0 : List (S128)} {f1 : ByteArray} {f2 : Bool} (h : IsS126 w0 W g f0 f1 f2) (x : ByteArray) : IsS126 w0 (W.setCell ⟨g, 1, none⟩ (.string x)) g f0 x f2 := by
  obtain ⟨A0, c0, hb, hg, hr0⟩ := h
  exact ⟨A0, c0, by simpa using blk_set hb 1 (.string x), hg, hr0⟩
theorem cellS126_2 {W : World} {g : Nat} {A0 : Option Addr} {c0 : Nat} {f0 : List (S128)} {f1 : ByteArray} {f2 : Bool} (h : W.heap[g]? = some (.cells #[.slice A0 f0.length c0, .string f1, .bool f2] 126 (0, 0))) : W.cell? ⟨g, 2, none⟩ = some (.bool f2) := (blk_cell h 2).trans rfl
theorem IsS126.set_2 {w0 W : World} {g : Nat} {f0 : List (S128)} {f1 : ByteArray} {f2 : Bool} (h : IsS126 w0 W g f0 f1 f2) (x : Bool) : IsS126 w0 (W.setCell ⟨g, 2, none⟩ (.bool x)) g f0 f1 x := by
  obtain ⟨A0, c0, hb, hg, hr0⟩ := h
  exact ⟨A0, c0, by simpa using blk_set hb 2 (.bool x), hg, hr0⟩
theorem IsS126.new (w0 W : World) (A0 : Option Addr) (c0 : Nat) (f0 : List (S128)) (f1 : ByteArray) (f2 : Bool) (hB : Below w0.heap.size w0 W) (hr0 : Kd.C k128 w0 A0 f0.length f0) : IsS126 w0 (W.alloc (.cells #[.slice A0 f0.length c0, .string f1, .bool f2] 126)) W.heap.size f0 f1 f2 := ⟨A0, c0, by simpa using heap_alloc_new W _, hB.size, hr0⟩

/-! ### impl_climber_next: function 151 -/
def hpre (t s : ByteArray) : Bool := (strings_HasPrefix.f t s).getD false
theorem hpre_eq (t s : ByteArray) : strings_HasPrefix.f t s = some (hpre t s) := by
  unfold hpre strings_HasPrefix.f stringslite_HasPrefix.f
  by_cases h : (t.size : Int) ≥ (s.size : Int)
  · rw [if_pos h, if_pos (by omega), if_pos (by omega)]; rfl
  · rw [if_neg h]; rfl
def nextIx (t : ByteArray) (l : List S128) : Nat := l.findIdx (fun o => hpre t o.f0)
theorem nextIx_le (t : ByteArray) (l : List S128) : nextIx t l ≤ l.length := List.findIdx_le_length
theorem nextIx_hit {t : ByteArray} {l : List S128} {k : Nat} (hk : k < l.length) (h1 : k ≤ nextIx t l) (h : hpre t (rd_T128 l (k : Int)).f0 = true) : nextIx t l = k := by
  by_cases hlt : k < nextIx t l
  · have := List.not_of_lt_findIdx hlt
    have e : rd_T128 l (k : Int) = l[k] := by
      unfold rd_T128
      rw [show (k : Int).toNat = k from by omega, List.getD_eq_getElem?_getD, List.getElem?_eq_getElem hk, Option.getD_some]
    rw [e] at h
    simp [h] at this
  · omega
theorem nextIx_miss {t : ByteArray} {l : List S128} {k : Nat} (hk : k < l.length) (h1 : k ≤ nextIx t l) (h : hpre t (rd_T128 l (k : Int)).f0 = false) : k + 1 ≤ nextIx t l := by
  by_cases e0 : nextIx t l = k
  · have hlt : l.findIdx (fun o => hpre t o.f0) < l.length := by unfold nextIx at e0; omega
    have hy := List.findIdx_getElem (w := hlt)
    have e : rd_T128 l (k : Int) = l[k] := by
      unfold rd_T128
      rw [show (k : Int).toNat = k from by omega, List.getD_eq_getElem?_getD, List.getElem?_eq_getElem hk, Option.getD_some]
    unfold nextIx at e0
    simp only [e0] at hy
    rw [e, hy] at h
    exact absurd h (by simp)
  · omega
def impl_climber_next.f (s0_0 : List S128) (s0_1 : ByteArray) (s0_2 : Bool) : Option (ByteArray × Int × Bool × Bool × ByteArray × Bool) :=
  if s0_0.length ≤ 1048576 then (if nextIx s0_1 s0_0 < s0_0.length then some ((rd_T128 s0_0 (nextIx s0_1 s0_0 : Int)).f0, (rd_T128 s0_0 (nextIx s0_1 s0_0 : Int)).f1, (rd_T128 s0_0 (nextIx s0_1 s0_0 : Int)).f2, true, s0_1, s0_2)
    else some ((⟨#[]⟩ : ByteArray), 0, false, false, s0_1, s0_2)) else none
theorem next_pred (t : ByteArray) (B g : Nat) (w : World) (hB : B < w.heap.size) (hg : g < w.heap.size) (hcell : w.cell? ⟨B, 0, none⟩ = some (.pointer (some ⟨g, 0, none⟩))) (hc1 : w.cell? ⟨g, 1, none⟩ = some (.string t)) (W : World) (x : S128) (hb : Below w.heap.size w W) :
    Calls Try.prog 197 #[.agg #[.string x.f0, .int .i64 x.f1, .bool x.f2], .pointer (some ⟨B, 0, none⟩)] W fun e w' => e = .returned (.bool (hpre t x.f0)) ∧ Below w.heap.size w w' := by
  have hc : W.cell? ⟨B, 0, none⟩ = some (.pointer (some ⟨g, 0, none⟩)) := (hb.cell (p := ⟨B, 0, none⟩) hB).trans hcell
  have hd : W.cell? ⟨g, 1, none⟩ = some (.string t) := (hb.cell (p := ⟨g, 1, none⟩) hg).trans hc1
  have hBW : B < W.heap.size := Nat.lt_of_lt_of_le hB hb.size
  have hgW : g < W.heap.size := Nat.lt_of_lt_of_le hg hb.size
  have hne : B ≠ W.heap.size := by omega
  have hne2 : g ≠ W.heap.size := by omega
  have HB := Aside0.mk hb
  clear hb hcell hc1 hB hg
  go_enter Try.func197, Try.ntmps197
  go_wp2
  repeat (go_quiet (first | (go_at_call 184; (with_reducible refine (strings_HasPrefix.calls t x.f0 (hpre t x.f0) _ (hpre_eq _ _)).mono ?_); rintro e w' ⟨rfl, ⟨nd, rfl⟩⟩; (try first | exact ⟨rfl, _, World.drewN_drewN _ _ _⟩ | exact ⟨rfl, _, Eq.trans (World.drewN_drewN _ _ _) (congrArg (World.drewN _) (Nat.add_assoc _ _ _))⟩))); try go_wp2)
  go_ret
  exact ⟨rfl, by repeat (first | exact HB.out | apply below_alloc | apply pw_below_drewN | apply below_drew1)⟩
theorem next_index (t : ByteArray) (B g : Nat) (l : List S128) (A0 : Option Addr) (c0 : Nat) (w : World) (hn : l.length ≤ 1048576) (hC : Kd.C k128 w A0 l.length l) (hB : B < w.heap.size) (hg : g < w.heap.size) (hcell : w.cell? ⟨B, 0, none⟩ = some (.pointer (some ⟨g, 0, none⟩))) (hc1 : w.cell? ⟨g, 1, none⟩ = some (.string t)) :
    Calls Try.prog 196 #[.slice A0 l.length c0, .func (.func 197) #[] #[.pointer (some ⟨B, 0, none⟩)]] w fun e w' => e = .returned (.int .i64 (if nextIx t l < l.length then (nextIx t l : Int) else -1)) ∧ Below w.heap.size w w' := by
  have hp := Aside0.mk (next_pred t B g w hB hg hcell hc1)
  have HC := Aside0.mk hC
  clear hC hB hg hcell hc1
  have hbig : l.length ≤ 9223372036854775807 := by omega
  generalize hN0 : (if nextIx t l < l.length then (nextIx t l : Int) else -1) = N
  have HN := Aside0.mk hN0
  clear hN0
  go_enter Try.func196, Try.ntmps196
  go_wp2
  go_loopg [5, 8] l.length (fun gg s5 s8 wr => ∃ kk : Nat, Aside0 (kk ≤ l.length) ∧ Aside0 (l.length - kk ≤ gg) ∧ s8 = .int .i64 kk ∧ Aside0 (Below w.heap.size w wr) ∧ Aside0 (kk ≤ nextIx t l))
  case atStart => exact ⟨0, ⟨Nat.zero_le _⟩, ⟨by omega⟩, rfl, ⟨Below.refl _ w⟩, ⟨Nat.zero_le _⟩⟩
  case round =>
    obtain ⟨kk, hkk, hgg, rfl, BW, A⟩ := hrel
    by_cases hlt : kk < l.length
    · have hltz : (kk : Int) < (l.length : Int) := by omega
      obtain ⟨ad, e0, hx0, hx1, hx2⟩ := at_T128 (Kd.C_below HC.out BW.out) (kk : Int) (by omega) (by omega)
      cases e0
      have hkt : ((kk : Int)).toNat = kk := by omega
      rw [hkt] at hx0 hx1 hx2
      clear hkt
      have p101 : 0 ≤ (kk : Int) := by omega
      have q101 : (kk : Int) < (l.length : Int) := hltz
      have d101 : decide ((kk : Int) < (l.length : Int)) = true := decide_eq_true hltz
      replace p101 := eq_true p101
      replace q101 := eq_true q101
      have hcall := hp.out _ (rd_T128 l (kk : Int)) BW.out
      cases hq : hpre t (rd_T128 l (kk : Int)).f0 with
      | true =>
        rw [hq] at hcall
        have hix := nextIx_hit hlt A.out hq
        have hN := Aside0.mk (show N = (kk : Int) by rw [← HN.out, hix, if_pos hlt])
        go_wp2_with (go_at_call 197; refine hcall.mono ?_; rintro e w' ⟨rfl, hb'⟩)
        go_ret
        exact ⟨by rw [hN.out]; rfl, hb'⟩
      | false =>
        rw [hq] at hcall
        have hix := nextIx_miss hlt A.out hq
        go_wp2_with (go_at_call 197; refine hcall.mono ?_; rintro e w' ⟨rfl, hb'⟩)
        go_roundg (l.length - (kk + 1))
        case measure => have := hgg.out; omega
        case rel => exact ⟨kk + 1, ⟨by omega⟩, ⟨by omega⟩, by go_num, ⟨hb'⟩, ⟨hix⟩⟩
    · have hltz : ¬ (kk : Int) < (l.length : Int) := by omega
      have hk : kk = l.length := by have := hkk.out; omega
      have hN := Aside0.mk (show N = -1 by rw [← HN.out]; exact if_neg (by have := A.out; omega))
      have d101 : decide ((kk : Int) < (l.length : Int)) = false := decide_eq_false hltz
      go_wp2
      go_ret
      exact ⟨by rw [hN.out]; rfl, BW.out⟩
theorem next_facts {w2 w3 : World} {B C g c0 : Nat} {A0 : Option Addr} {l : List S128} {k : Nat} (hb3 : Below w2.heap.size w2 w3) (hB : B < w2.heap.size) (hg : g < w2.heap.size) (hcB : w2.cell? ⟨B, 0, none⟩ = some (.pointer (some ⟨g, 0, none⟩))) (hcz : w2.cell? ⟨g, 0, none⟩ = some (.slice A0 l.length c0)) (hkC : w2.heap[C]? = some (.cells #[.string ⟨#[]⟩, .int .i64 0, .bool false] 128 (0, 0))) (hC : Kd.C k128 w2 A0 l.length l) (hk : k < l.length) :
    ∃ ad, A0 = some ad ∧ w3.cell? ⟨B, 0, none⟩ = some (.pointer (some ⟨g, 0, none⟩)) ∧ w3.cell? ⟨g, 0, none⟩ = some (.slice A0 l.length c0) ∧ w3.cell? (ad.add (k * 3)) = some (.string (rd_T128 l (k : Int)).f0) ∧ w3.cell? ⟨(ad.add (k * 3)).block, (ad.add (k * 3)).off + 1, none⟩ = some (.int .i64 (rd_T128 l (k : Int)).f1) ∧ w3.cell? ⟨(ad.add (k * 3)).block, (ad.add (k * 3)).off + 2, none⟩ = some (.bool (rd_T128 l (k : Int)).f2) ∧
      w3.heap[C]? = some (.cells #[.string ⟨#[]⟩, .int .i64 0, .bool false] 128 (0, 0)) ∧ w3.cell? ⟨C, 0, none⟩ = some (.string ⟨#[]⟩) ∧ w3.cell? ⟨C, 1, none⟩ = some (.int .i64 0) ∧ w3.cell? ⟨C, 2, none⟩ = some (.bool false) ∧ w3.frozen? ⟨C, 0, none⟩ = false ∧ w3.frozen? ⟨C, 1, none⟩ = false ∧ w3.frozen? ⟨C, 2, none⟩ = false := by
  obtain ⟨ad, e0, hx0, hx1, hx2⟩ := at_T128 (Kd.C_below hC hb3) (k : Int) (by omega) (by omega)
  rw [show ((k : Int)).toNat = k from by omega] at hx0 hx1 hx2
  have hk3 := blk_below hkC hb3
  exact ⟨ad, e0, (hb3.cell (p := ⟨B, 0, none⟩) hB).trans hcB, (hb3.cell (p := ⟨g, 0, none⟩) hg).trans hcz, hx0, hx1, hx2, hk3, (blk_cell hk3 0).trans rfl, (blk_cell hk3 1).trans rfl, (blk_cell hk3 2).trans rfl, blk_frozen hk3 0, blk_frozen hk3 1, blk_frozen hk3 2⟩
set_option maxHeartbeats 8000000 in
set_option maxRecDepth 100000 in
theorem impl_climber_next.calls (g : Nat) (s0_0 : List S128) (s0_1 : ByteArray) (s0_2 : Bool) (r1 : ByteArray) (r2 : Int) (r3 : Bool) (r4 : Bool) (r5 : ByteArray) (r6 : Bool) (w0 w : World) (hI : IsS126 w0 w g s0_0 s0_1 s0_2) (hB : Below w0.heap.size w0 w) (h : impl_climber_next.f s0_0 s0_1 s0_2 = some (r1, r2, r3, r4, r5, r6)) :
    Calls Try.prog 151 #[.pointer (some ⟨g, 0, none⟩)] w fun e w' => e = .returned (.tuple #[.agg #[.string r1, .int .i64 r2, .bool r3], .bool r4]) ∧ IsS126 w0 w' g s0_0 r5 r6 ∧ Below w0.heap.size w0 w' ∧ KeepBut w w' g none := by
  have HI0 := Aside0.mk hI
  have HB := Aside0.mk hB
  have HC := Aside0.mk h
  have hgl := Aside0.mk hI.lt
  obtain ⟨A0, c0, HG, hge, HS⟩ := hI
  have HSw := Aside0.mk (Kd.C_below HS hB)
  have hcz0 := cellS126_0 HG
  have hcz1 := cellS126_1 HG
  have hcz2 := cellS126_2 HG
  have HZ1 := Aside0.mk hcz1
  clear HG hge HS hB h
  unfold impl_climber_next.f at HC
  by_cases hn : s0_0.length ≤ 1048576
  case neg => exact absurd HC.out (by rw [if_neg hn]; simp)
  have H := HC.out
  clear HC
  rw [if_pos hn] at H
  have HH := Aside0.mk H
  clear H
  go_enter Try.func151, Try.ntmps151
  go_upto_region 1 with (fail)
  obtain ⟨w2, hw2⟩ : ∃ w2, w2 = (w.alloc (Obj.cells #[.pointer (some ⟨g, 0, none⟩)] 124)).alloc (Obj.cells #[.string ⟨#[]⟩, .int .i64 0, .bool false] 128) := ⟨_, rfl⟩
  rw [← hw2]
  have hb2 : Below w.heap.size w w2 := by rw [hw2]; exact below_alloc (below_alloc (Below.refl _ _) _) _
  have hcB : w2.cell? ⟨w.heap.size, 0, none⟩ = some (.pointer (some ⟨g, 0, none⟩)) := by rw [hw2]; simp
  have hkC : w2.heap[w.heap.size + 1]? = some (.cells #[.string ⟨#[]⟩, .int .i64 0, .bool false] 128 (0, 0)) := by rw [hw2]; simpa using heap_alloc_new (w.alloc (Obj.cells #[.pointer (some ⟨g, 0, none⟩)] 124)) (Obj.cells #[.string ⟨#[]⟩, .int .i64 0, .bool false] 128)
  have hs2 : w2.heap.size = w.heap.size + 2 := by rw [hw2]; simp
  clear hw2
  replace hcz0 := (hb2.cell (p := ⟨g, 0, none⟩) hgl.out).trans hcz0
  replace hcz1 := (hb2.cell (p := ⟨g, 1, none⟩) hgl.out).trans hcz1
  replace hcz2 := (hb2.cell (p := ⟨g, 2, none⟩) hgl.out).trans hcz2
  replace HSw := Aside0.mk (Kd.C_below HSw.out hb2)
  have HB2 := Aside0.mk hb2
  clear hb2
  have HG1 := Aside0.mk (show g < w2.heap.size by have := hgl.out; omega)
  have HC0 := Aside0.mk hkC
  have HS2 := Aside0.mk hs2
  have HZ := Aside0.mk hcz1
  have HZ0 := Aside0.mk hcz0
  have HZB := Aside0.mk hcB
  clear hkC hs2
  by_cases hix : nextIx s0_1 s0_0 < s0_0.length
  · have H := HH.out
    rw [if_pos hix] at H
    simp only [Option.some.injEq, Prod.mk.injEq] at H
    obtain ⟨rfl, rfl, rfl, rfl, rfl, rfl⟩ := H
    clear HH
    have p101 : 0 ≤ (nextIx s0_1 s0_0 : Int) := by omega
    have q101 : (nextIx s0_1 s0_0 : Int) < (s0_0.length : Int) := by omega
    have d101 : decide ((nextIx s0_1 s0_0 : Int) < 0) = false := decide_eq_false (by omega)
    replace p101 := eq_true p101
    replace q101 := eq_true q101
    go_wp2_with (go_at_call 196; refine (next_index s0_1 w.heap.size g s0_0 A0 c0 _ hn HSw.out (by have := HS2.out; omega) HG1.out HZB.out HZ.out).mono ?_; rintro e w3 ⟨rfl, hb3⟩; obtain ⟨ad, e0, hcB3, hcz03, hx0, hx1, hx2, hk3, hC0, hC1, hC2, hF0, hF1, hF2⟩ := next_facts hb3 (by have := HS2.out; omega) HG1.out HZB.out HZ0.out HC0.out HSw.out hix; cases e0; have HK3 := Aside0.mk hk3; clear hk3; have HB3 := Aside0.mk hb3; clear hb3)
    refine bodyPost_ret (results_ct rfl _ _ (w.heap.size + 1) 128 #[.string (rd_T128 s0_0 (nextIx s0_1 s0_0 : Int)).f0, .int .i64 (rd_T128 s0_0 (nextIx s0_1 s0_0 : Int)).f1, .bool (rd_T128 s0_0 (nextIx s0_1 s0_0 : Int)).f2] (0, 0) _ rfl (blk_put (blk_put (blk_put HK3.out 0 _ rfl) 1 _ rfl) 2 _ rfl) Try.underlying128 rfl (by kernel_rfl)) rfl ?_
    have hb4 := below_step HB2.out HB3.out
    refine ⟨rfl, IsS126.below HI0.out ?hb, below_step HB.out ?hb, KeepBut.of_below ?hb g none⟩
    repeat (first | exact hb4 | refine below_set ?_ (by omega))
  · have H := HH.out
    rw [if_neg hix] at H
    simp only [Option.some.injEq, Prod.mk.injEq] at H
    obtain ⟨rfl, rfl, rfl, rfl, rfl, rfl⟩ := H
    clear HH
    have d101 : decide ((-1 : Int) < 0) = true := rfl
    go_wp2_with (go_at_call 196; refine (next_index s0_1 w.heap.size g s0_0 A0 c0 _ hn HSw.out (by have := HS2.out; omega) HG1.out HZB.out HZ.out).mono ?_; rintro e w3 ⟨rfl, hb3⟩; rw [if_neg hix]; have hk3 := blk_below HC0.out hb3; have hC0 : w3.cell? ⟨w.heap.size + 1, 0, none⟩ = some (.string ⟨#[]⟩) := (blk_cell hk3 0).trans rfl; have hC1 : w3.cell? ⟨w.heap.size + 1, 1, none⟩ = some (.int .i64 0) := (blk_cell hk3 1).trans rfl; have hC2 : w3.cell? ⟨w.heap.size + 1, 2, none⟩ = some (.bool false) := (blk_cell hk3 2).trans rfl; have hF0 := blk_frozen hk3 0; have hF1 := blk_frozen hk3 1; have hF2 := blk_frozen hk3 2; have HK3 := Aside0.mk hk3; clear hk3; have HB3 := Aside0.mk hb3; clear hb3)
    refine bodyPost_ret (results_ct rfl _ _ (w.heap.size + 1) 128 #[.string ⟨#[]⟩, .int .i64 0, .bool false] (0, 0) _ rfl (blk_put (blk_put (blk_put HK3.out 0 _ rfl) 1 _ rfl) 2 _ rfl) Try.underlying128 rfl (by kernel_rfl)) rfl ?_
    have hb4 := below_step HB2.out HB3.out
    refine ⟨rfl, IsS126.below HI0.out ?hc, below_step HB.out ?hc, KeepBut.of_below ?hc g none⟩
    repeat (first | exact hb4 | refine below_set ?_ (by omega))


/-! ### impl_isFigure: function 181 -/
def impl_isFigure.f (a0 : Int) : Option (Bool) := (impl_within.f (wrap64 (a0)) 48 57).bind fun t212 => (some t212)
set_option maxHeartbeats 8000000 in
set_option maxRecDepth 100000 in
theorem impl_isFigure.calls (a0 : Int) (r : Bool) (w : World) (h : impl_isFigure.f a0 = some r) :
    Calls Try.prog 181 #[.int .u8 a0] w fun e w' => e = .returned (.bool r) ∧ Drawn0 w w' := by
  have H : ((impl_within.f (wrap64 (a0)) 48 57).bind fun t212 => (some t212)) = some r := h
  clear h
  replace H := Option.bind_eq_some_iff.mp H
  obtain ⟨t212, A20, H⟩ := H
  replace H : (some t212) = some r := H
  have A2 := Aside0.mk A20
  clear A20
  obtain rfl := Option.some.inj H
  go_enter Try.func181, Try.ntmps181
  go_wp2_with (first | ((with_reducible refine gate_callee (f := 86) rfl ?_); refine goesL_ (some 5) rfl rfl Try.func86 (by kernel_rfl) rfl #[.int .i64 (wrap64 (a0)), .int .i64 48, .int .i64 57] rfl (by (try simp only [List.map_toArray, List.map_cons, List.map_nil]); first | done | rfl | (simp only [List.length_drop, List.length_take]; rfl)) ?_; (with_reducible refine (impl_within.calls (wrap64 (a0)) 48 57 t212 _ A2.out).mono ?_); rintro e w' ⟨rfl, ⟨nd, rfl⟩⟩; refine ⟨_, rfl, ?_⟩))
  go_ret
  exact ⟨by first | rfl | (simp; done) | (simp [*]; done) | (simp [isE0, isE1]; done), by repeat (first | exact Drawn0.refl _ | apply Drawn0.step)⟩

end Go.Proofs.Ytlkbdoejeomlmaa.PFnParentheses
