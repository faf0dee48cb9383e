/- Written by a program of this session out of Lean's print of the translation: what the calls of these Go functions come to, in plain Lean. No condition. -/
import Derived.Test.YtlkbdoejeomlmaaPFnExactSameSurfacex0
import Derived.Test.YtlkbdoejeomlmaaPFnExactSameSurfacex2
import Derived.Test.YtlkbdoejeomlmaaPFnExactSameSurfacex3
namespace Go.Proofs.Ytlkbdoejeomlmaa.PFnExactSameSurface
open Go.RowKit Go.Proofs.YtlkbdoejeomlmaaW.PrintWords Go.Proofs.YtlkbdoejeomlmaaW.PrintLast Go.Proofs.YtlkbdoejeomlmaaW.PrintMore
attribute [local go_sem] max2_int min2_int max_two min_two max_three min_three max_four min_four   -- for this text's walks alone
set_option linter.unusedVariables false
set_option linter.unusedSimpArgs false

/-! ### spec_SameSurface: function 41 -/
mutual
def spec_SameSurface.j0 : Nat → Bool → List (S144) → List (S148) → List (S144) → List (S148) → Option (Bool)
 | 0, _, _, _, _, _ => none
 | k + 1, x24, x137000, x137001, x138000, x138001 => if x24 = true then (some false) else (spec_SameSurface.l0 k 0 x137000 x137001 x138000 x138001)
def spec_SameSurface.l0 : Nat → Int → List (S144) → List (S148) → List (S144) → List (S148) → Option (Bool)
 | 0, _, _, _, _, _ => none
 | k + 1, x5, x137000, x137001, x138000, x138001 => if x5 < (x137000.length : Int) then (if 0 ≤ x5 then (if x5 < (x138000.length : Int) then (if ((rd_T144 x137000 x5).f0) = ((rd_T144 x138000 x5).f0) then (if ((rd_T144 x137000 x5).f1).toList = ((rd_T144 x138000 x5).f1).toList then (if ((rd_T144 x137000 x5).f3).toList = ((rd_T144 x138000 x5).f3).toList then ((spec_l11SameExprs.f k ((rd_T144 x137000 x5).f2) ((rd_T144 x138000 x5).f2)).bind fun t142 => (if t142 = true then ((spec_l07SameInts.f k ((rd_T144 x137000 x5).f4) ((rd_T144 x138000 x5).f4)).bind fun t143 => (if t143 = true then (spec_SameSurface.l0 k (wrap64 (x5 + 1)) x137000 x137001 x138000 x138001) else (some false))) else (some false))) else (some false)) else (some false)) else (some false)) else (none)) else (none)) else (spec_SameSurface.l1 k 0 x137000 x137001 x138000 x138001)
def spec_SameSurface.l1 : Nat → Int → List (S144) → List (S148) → List (S144) → List (S148) → Option (Bool)
 | 0, _, _, _, _, _ => none
 | k + 1, x8, x137000, x137001, x138000, x138001 => if x8 < (x137001.length : Int) then (if 0 ≤ x8 then (if x8 < (x138001.length : Int) then (if ((rd_T148 x137001 x8).f0).toList = ((rd_T148 x138001 x8).f0).toList then (if ((rd_T148 x137001 x8).f2) = ((rd_T148 x138001 x8).f2) then ((spec_l11SameTexts.f k ((rd_T148 x137001 x8).f1) ((rd_T148 x138001 x8).f1)).bind fun t150 => (if t150 = true then (spec_SameSurface.l1 k (wrap64 (x8 + 1)) x137000 x137001 x138000 x138001) else (some false))) else (some false)) else (some false)) else (none)) else (none)) else (some true)
end
def spec_SameSurface.f (k : Nat) (l0_0 : List (S144)) (l0_1 : List (S148)) (l1_0 : List (S144)) (l1_1 : List (S148)) : Option (Bool) := if (l0_0.length : Int) = (l1_0.length : Int) then (spec_SameSurface.j0 k ((l0_1.length : Int) != (l1_1.length : Int)) l0_0 l0_1 l1_0 l1_1) else (spec_SameSurface.j0 k true l0_0 l0_1 l1_0 l1_1)
theorem spec_SameSurface.mono_l : ∀ k, (∀ y0 y1 y2 y3 y4, LeO (spec_SameSurface.j0 k y0 y1 y2 y3 y4) (spec_SameSurface.j0 (k + 1) y0 y1 y2 y3 y4)) ∧ (∀ y0 y1 y2 y3 y4, LeO (spec_SameSurface.l0 k y0 y1 y2 y3 y4) (spec_SameSurface.l0 (k + 1) y0 y1 y2 y3 y4)) ∧ (∀ y0 y1 y2 y3 y4, LeO (spec_SameSurface.l1 k y0 y1 y2 y3 y4) (spec_SameSurface.l1 (k + 1) y0 y1 y2 y3 y4))
 | 0 => ⟨fun _ _ _ _ _ r h => by simp [spec_SameSurface.j0] at h, fun _ _ _ _ _ r h => by simp [spec_SameSurface.l0] at h, fun _ _ _ _ _ r h => by simp [spec_SameSurface.l1] at h⟩
 | k + 1 => by
  obtain ⟨ih0, ih1, ih2⟩ := spec_SameSurface.mono_l k
  refine ⟨?_, ?_, ?_⟩
  ·intro y0 y1 y2 y3 y4
   unfold spec_SameSurface.j0
   repeat' first
   | (with_reducible exact ih0 _ _ _ _ _)
   | (with_reducible exact ih1 _ _ _ _ _)
   | (with_reducible exact ih2 _ _ _ _ _)
   | (with_reducible exact spec_l07SameInts.mono _ _ _)
   | (with_reducible exact spec_l11SameExprs.mono _ _ _)
   | (with_reducible exact spec_l11SameTexts.mono _ _ _)
   | (with_reducible exact LeO.refl _)
   | (with_reducible exact LeO.none _)
   | (with_reducible refine LeO.ite ?_ ?_)
   | (with_reducible refine LeO.bind ?_ (fun _ => ?_))
   | exact ih0 _ _ _ _ _
   | exact ih1 _ _ _ _ _
   | exact ih2 _ _ _ _ _
   | exact spec_l07SameInts.mono _ _ _
   | exact spec_l11SameExprs.mono _ _ _
   | exact spec_l11SameTexts.mono _ _ _
   | exact LeO.none _
   | refine LeO.ite ?_ ?_
   | refine LeO.bind ?_ (fun _ => ?_)
  ·intro y0 y1 y2 y3 y4
   unfold spec_SameSurface.l0
   repeat' first
   | (with_reducible exact ih0 _ _ _ _ _)
   | (with_reducible exact ih1 _ _ _ _ _)
   | (with_reducible exact ih2 _ _ _ _ _)
   | (with_reducible exact spec_l07SameInts.mono _ _ _)
   | (with_reducible exact spec_l11SameExprs.mono _ _ _)
   | (with_reducible exact spec_l11SameTexts.mono _ _ _)
   | (with_reducible exact LeO.refl _)
   | (with_reducible exact LeO.none _)
   | (with_reducible refine LeO.ite ?_ ?_)
   | (with_reducible refine LeO.bind ?_ (fun _ => ?_))
   | exact ih0 _ _ _ _ _
   | exact ih1 _ _ _ _ _
   | exact ih2 _ _ _ _ _
   | exact spec_l07SameInts.mono _ _ _
   | exact spec_l11SameExprs.mono _ _ _
   | exact spec_l11SameTexts.mono _ _ _
   | exact LeO.none _
   | refine LeO.ite ?_ ?_
   | refine LeO.bind ?_ (fun _ => ?_)
  ·intro y0 y1 y2 y3 y4
   unfold spec_SameSurface.l1
   repeat' first
   | (with_reducible exact ih0 _ _ _ _ _)
   | (with_reducible exact ih1 _ _ _ _ _)
   | (with_reducible exact ih2 _ _ _ _ _)
   | (with_reducible exact spec_l07SameInts.mono _ _ _)
   | (with_reducible exact spec_l11SameExprs.mono _ _ _)
   | (with_reducible exact spec_l11SameTexts.mono _ _ _)
   | (with_reducible exact LeO.refl _)
   | (with_reducible exact LeO.none _)
   | (with_reducible refine LeO.ite ?_ ?_)
   | (with_reducible refine LeO.bind ?_ (fun _ => ?_))
   | exact ih0 _ _ _ _ _
   | exact ih1 _ _ _ _ _
   | exact ih2 _ _ _ _ _
   | exact spec_l07SameInts.mono _ _ _
   | exact spec_l11SameExprs.mono _ _ _
   | exact spec_l11SameTexts.mono _ _ _
   | exact LeO.none _
   | refine LeO.ite ?_ ?_
   | refine LeO.bind ?_ (fun _ => ?_)
theorem spec_SameSurface.mono : ∀ a0 a1 a2 a3 k, LeO (spec_SameSurface.f k a0 a1 a2 a3) (spec_SameSurface.f (k + 1) a0 a1 a2 a3) := by
 intro a0 a1 a2 a3 k
 obtain ⟨ih0, ih1, ih2⟩ := spec_SameSurface.mono_l k
 unfold spec_SameSurface.f
 repeat' first
   | (with_reducible exact ih0 _ _ _ _ _)
   | (with_reducible exact ih1 _ _ _ _ _)
   | (with_reducible exact ih2 _ _ _ _ _)
   | (with_reducible exact spec_l07SameInts.mono _ _ _)
   | (with_reducible exact spec_l11SameExprs.mono _ _ _)
   | (with_reducible exact spec_l11SameTexts.mono _ _ _)
   | (with_reducible exact LeO.refl _)
   | (with_reducible exact LeO.none _)
   | (with_reducible refine LeO.ite ?_ ?_)
   | (with_reducible refine LeO.bind ?_ (fun _ => ?_))
   | exact ih0 _ _ _ _ _
   | exact ih1 _ _ _ _ _
   | exact ih2 _ _ _ _ _
   | exact spec_l07SameInts.mono _ _ _
   | exact spec_l11SameExprs.mono _ _ _
   | exact spec_l11SameTexts.mono _ _ _
   | exact LeO.none _
   | refine LeO.ite ?_ ?_
   | refine LeO.bind ?_ (fun _ => ?_)
def spec_SameSurface.T13 : Bool × List (List Nat × List Nat) := (true, [([], []), ([0], [0]), ([], []), ([1, 2], [1, 2]), ([3], [3]), ([4], [4]), ([], []), ([6], [6]), ([], []), ([7, 8], [7, 8]), ([9], [9]), ([10], [10]), ([5, 11], [5, 11]), ([12], [12]), ([13], [13]), ([14, 13], [13, 14]), ([13], [13]), ([15, 16, 13], [13, 15, 16]), ([17, 13], [13, 17]), ([18, 13], [13, 18]), ([13], [13]), ([20, 13], [13, 20]), ([13], [13]), ([21, 22, 13], [13, 21, 22]), ([23, 13], [13, 23]), ([24, 13], [13, 24]), ([19, 25, 13], [13, 19, 25]), ([13, 26], [13, 26]), ([27, 13], [27]), ([28], [28]), ([29, 28], [28, 29]), ([28], [28]), ([30, 31, 28], [28, 30, 31]), ([32, 28], [28, 32]), ([33, 28], [28, 33]), ([28], [28]), ([35, 28], [28, 35]), ([28], [28]), ([36, 37, 28], [28, 36, 37]), ([38, 28], [28, 38]), ([39, 28], [28, 39]), ([34, 40, 28, 28], [28, 34, 40]), ([41, 28], [28, 41]), ([28, 42], [28, 42])])
def spec_SameSurface.B13 : List Nat := [0, 1, 0, 7, 15, 31, 0, 64, 0, 448, 960, 1984, 4095, 8191, 16383, 32767, 16383, 131071, 262143, 524287, 16383, 1064959, 16383, 7356415, 15745023, 32522239, 67108863, 134217727, 268435455, 536870911, 1073741823, 536870911, 4294967295, 8589934591, 17179869183, 536870911, 34896609279, 536870911, 241055039487, 515932946431, 1065688760319, 2199023255551, 4398046511103, 8796093022207]
theorem spec_SameSurface.tab13 : rtab .any (opsOf Try.f41 13) = spec_SameSurface.T13 := by kernel_rfl
theorem spec_SameSurface.bits13 : waitsOk spec_SameSurface.T13.2 spec_SameSurface.B13 = true := by kernel_rfl
set_option maxHeartbeats 8000000 in
set_option maxRecDepth 100000 in
theorem spec_SameSurface.calls (k : Nat) (A0_0 : Option Addr) (c0_0 : Nat) (l0_0 : List (S144)) (A0_1 : Option Addr) (c0_1 : Nat) (l0_1 : List (S148)) (A1_0 : Option Addr) (c1_0 : Nat) (l1_0 : List (S144)) (A1_1 : Option Addr) (c1_1 : Nat) (l1_1 : List (S148)) (r : Bool) (w : World) (hr0_0 : Kd.C k144 w A0_0 l0_0.length l0_0) (hc0_0 : l0_0.length ≤ c0_0) (hr0_1 : Kd.C k148 w A0_1 l0_1.length l0_1) (hc0_1 : l0_1.length ≤ c0_1) (hr1_0 : Kd.C k144 w A1_0 l1_0.length l1_0) (hc1_0 : l1_0.length ≤ c1_0) (hr1_1 : Kd.C k148 w A1_1 l1_1.length l1_1) (hc1_1 : l1_1.length ≤ c1_1) (h : spec_SameSurface.f k l0_0 l0_1 l1_0 l1_1 = some r) :
  Calls Try.prog 41 #[.agg #[.slice A0_0 l0_0.length c0_0, .slice A0_1 l0_1.length c0_1], .agg #[.slice A1_0 l1_0.length c1_0, .slice A1_1 l1_1.length c1_1]] w fun e w' => e = .returned (.bool r) ∧ Below w.heap.size w w' := by
 have hu73 := Try.underlying73
 have hu144 := Try.underlying144
 have HR0_0 := Aside0.mk hr0_0
 have HC0_0 := Aside0.mk hc0_0
 clear hr0_0 hc0_0
 have HR0_1 := Aside0.mk hr0_1
 have HC0_1 := Aside0.mk hc0_1
 clear hr0_1 hc0_1
 have HR1_0 := Aside0.mk hr1_0
 have HC1_0 := Aside0.mk hc1_0
 clear hr1_0 hc1_0
 have HR1_1 := Aside0.mk hr1_1
 have HC1_1 := Aside0.mk hc1_1
 clear hr1_1 hc1_1
 have HB := Aside0.mk (Below.refl w.heap.size w)
 have H : (if (l0_0.length : Int) = (l1_0.length : Int) then (spec_SameSurface.j0 k ((l0_1.length : Int) != (l1_1.length : Int)) l0_0 l0_1 l1_0 l1_1) else (spec_SameSurface.j0 k true l0_0 l0_1 l1_0 l1_1)) = some r := h
 clear h
 have HC3 := Aside0.mk H
 clear H
 go_enter Try.func41, Try.ntmps41
 go_upto_region 1 with (first | ((with_reducible refine gate_dst (N := 2) rfl ?_); (try (refine gate_guard (by rfl) ?_; dsimp only)); refine box_event ?hg (N := 2) ?hd (cs := #[.slice A0_0 l0_0.length c0_0, .slice A0_1 l0_1.length c0_1]) (t := 73) ?hr ?_; (case hd => rfl); (case hg => rfl); (case hr => first | (go_simp; done) | (go_simp; rfl)); intro gb136 hg w4 hbox hb; have n0_ := Aside0.mk (below_step bw hb); have n1_ := Aside0.mk (hbox); have n2_ := Aside0.mk ((bz bw hg : w.heap.size ≤ gb136)); have n3_ := Aside0.mk ((bz bw hg : w.heap.size ≤ gb136)); clear HB; have HB := n0_; have BK136 := n1_; have GW136 := n2_; have GE136 := n3_; clear n0_ n1_ n2_ n3_; clear hb hbox hg) | ((with_reducible refine gate_dst (N := 3) rfl ?_); (try (refine gate_guard (by rfl) ?_; dsimp only)); refine box_event ?hg (N := 3) ?hd (cs := #[.slice A1_0 l1_0.length c1_0, .slice A1_1 l1_1.length c1_1]) (t := 73) ?hr ?_; (case hd => rfl); (case hg => rfl); (case hr => first | (go_simp; done) | (go_simp; rfl)); intro gb137 hg w5 hbox hb; have n0_ := Aside0.mk (blk_below (g := gb136) (o := .cells #[.slice A0_0 l0_0.length c0_0, .slice A0_1 l0_1.length c0_1] 73 (0, 0)) bx hb); have n1_ := Aside0.mk (below_step bw hb); have n2_ := Aside0.mk (hbox); have n3_ := Aside0.mk ((bz bw hg : w.heap.size ≤ gb137)); have n4_ := Aside0.mk ((bz bw hg : w.heap.size ≤ gb137)); have n5_ := Aside0.mk ((bl bx hg : gb136 ≠ gb137)); have n6_ := Aside0.mk ((bl' bx hg : gb137 ≠ gb136)); clear BK136; clear HB; have BK136 := n0_; have HB := n1_; have BK137 := n2_; have GW137 := n3_; have GE137 := n4_; have NB136_137 := n5_; have NB137_136 := n6_; clear n0_ n1_ n2_ n3_ n4_ n5_ n6_; clear hb hbox hg))
 (try simp only [Act.put, List.setIfInBounds_toArray, List.set_cons_zero, List.set_cons_succ])
 go_cut [24] (fun v24 wc => ∃ (kq : Nat) (x24_2 : Bool), v24 = .bool x24_2 ∧ Aside0 (spec_SameSurface.j0 kq x24_2 l0_0 l0_1 l1_0 l1_1 = some r) ∧ Aside0 (kq ≤ k) ∧ Aside0 (wc.heap[gb136]? = some (.cells #[(.slice A0_0 l0_0.length c0_0), (.slice A0_1 l0_1.length c0_1)] 73 (0, 0))) ∧ Aside0 (wc.heap[gb137]? = some (.cells #[(.slice A1_0 l1_0.length c1_0), (.slice A1_1 l1_1.length c1_1)] 73 (0, 0))) ∧ Aside0 (Below w.heap.size w wc))
 case first =>
  have H := HC3.out
  clear HC3
  by_cases c6 : (l0_0.length : Int) = (l1_0.length : Int)
  ·rw [if_pos c6] at H
   have c6b0 : ((l0_0.length : Int) == (l1_0.length : Int)) = true := beq_iff_eq.mpr c6
   have c6b1 : ((l0_0.length : Int) != (l1_0.length : Int)) = false := bne_eq_false_iff_eq.mpr c6
   have c6b2 : (l0_0.length == l1_0.length) = true := by first | simpa using c6 | (simp at c6 ⊢; omega)
   clear c6
   (first | rw [c6b0] | (simp only [i64_w, i32_w]; rw [c6b0]) | skip)
   have H' := Aside0.mk H
   clear H
   have hnb7 := NB136_137.out
   have hnc7 := NB137_136.out
   obtain ⟨hcz8_0, hcz8_1, hfz8_0, hfz8_1⟩ := bc2 BK136.out
   obtain ⟨hcz9_0, hcz9_1, hfz9_0, hfz9_1⟩ := bc2 BK137.out
   go_wp2
   go_meet
   case rel => exact ⟨_, (((l0_1.length : Int) != (l1_1.length : Int))), (by first | rfl | (simp; done) | (simp [*]; done) | (simp [isE0, isE1]; done)), H', ⟨by first | omega | exact Nat.le_refl _⟩, ⟨by (with_reducible repeat (first | refine blk_drewN ?_ _ | refine blk_drew ?_ | refine blk_alloc ?_ _)); exact BK136.out⟩, ⟨by (with_reducible repeat (first | refine blk_drewN ?_ _ | refine blk_drew ?_ | refine blk_alloc ?_ _)); exact BK137.out⟩, ⟨by repeat (first | (with_reducible first | exact HB.out | apply below_alloc | apply pw_below_drewN | apply below_drew1 | refine below_set ?_ GE136.out | refine below_set ?_ GE137.out) | exact HB.out)⟩⟩
  ·rw [if_neg c6] at H
   have c6b0 : ((l0_0.length : Int) == (l1_0.length : Int)) = false := beq_eq_false_iff_ne.mpr c6
   have c6b1 : ((l0_0.length : Int) != (l1_0.length : Int)) = true := bne_iff_ne.mpr c6
   have c6b2 : (l0_0.length == l1_0.length) = false := by first | simpa using c6 | (simp at c6 ⊢; omega)
   (first | rw [c6b0] | (simp only [i64_w, i32_w]; rw [c6b0]) | skip)
   have H' := Aside0.mk H
   clear H
   have hnb10 := NB136_137.out
   have hnc10 := NB137_136.out
   obtain ⟨hcz11_0, hcz11_1, hfz11_0, hfz11_1⟩ := bc2 BK136.out
   obtain ⟨hcz12_0, hcz12_1, hfz12_0, hfz12_1⟩ := bc2 BK137.out
   go_wp2
   go_meet
   case rel => exact ⟨_, (true), (by first | rfl | (simp; done) | (simp [*]; done) | (simp [isE0, isE1]; done)), H', ⟨by first | omega | exact Nat.le_refl _⟩, ⟨by (with_reducible repeat (first | refine blk_drewN ?_ _ | refine blk_drew ?_ | refine blk_alloc ?_ _)); exact BK136.out⟩, ⟨by (with_reducible repeat (first | refine blk_drewN ?_ _ | refine blk_drew ?_ | refine blk_alloc ?_ _)); exact BK137.out⟩, ⟨by repeat (first | (with_reducible first | exact HB.out | apply below_alloc | apply pw_below_drewN | apply below_drew1 | refine below_set ?_ GE136.out | refine below_set ?_ GE137.out) | exact HB.out)⟩⟩
 case rest =>
  clear HC3
  try clear c1
  try clear p2
  try clear c4
  try clear c6
  try clear c6b0
  try clear c6b1
  try clear c6b2
  try clear c7
  try clear c10
  try clear hcz11_0
  try clear hcz11_1
  try clear hcz12_0
  try clear hcz12_1
  try clear hcz8_0
  try clear hcz8_1
  try clear hcz9_0
  try clear hcz9_1
  try clear hfz11_0
  try clear hfz11_1
  try clear hfz12_0
  try clear hfz12_1
  try clear hfz8_0
  try clear hfz8_1
  try clear hfz9_0
  try clear hfz9_1
  obtain ⟨kq, x24_2, rfl, HA, HJ2, BK136, BK137, HB⟩ := hcut
  cases kq with
  | zero => exact absurd HA.out (by simp [spec_SameSurface.j0])
  | succ kj2 =>
   have H := HA.out
   clear HA
   simp only [spec_SameSurface.j0] at H
   by_cases c13 : x24_2 = true
   ·subst c13
    have H1 : (some false) = some r := by rw [if_pos rfl] at H; exact H
    clear H
    have H := H1
    clear H1
    obtain rfl := Option.some.inj H
    go_wp2
    go_ret
    exact ⟨by first | rfl | (simp [errW_none, errW_some] <;> rfl) | (simp [*, errW_none, errW_some] <;> rfl), by repeat (first | (with_reducible first | exact HB.out | apply below_alloc | apply pw_below_drewN | apply below_drew1 | refine below_set ?_ GE136.out | refine below_set ?_ GE137.out) | exact HB.out)⟩
   ·replace c13 := Bool.eq_false_iff.mpr c13
    subst c13
    have H1 : (spec_SameSurface.l0 kj2 0 l0_0 l0_1 l1_0 l1_1) = some r := by rw [if_neg (show ¬ (false = true) by decide)] at H; exact H
    clear H
    have H := H1
    clear H1
    have H' := Aside0.mk H
    clear H
    go_wp2
    go_loopg [5] kj2 (fun kq v5 w' => ∃ (x5_2 : Int), v5 = .int .i64 x5_2 ∧ Aside0 (spec_SameSurface.l0 kq x5_2 l0_0 l0_1 l1_0 l1_1 = some r) ∧ Aside0 (kq ≤ kj2) ∧ Aside0 (w'.heap[gb136]? = some (.cells #[(.slice A0_0 l0_0.length c0_0), (.slice A0_1 l0_1.length c0_1)] 73 (0, 0))) ∧ Aside0 (w'.heap[gb137]? = some (.cells #[(.slice A1_0 l1_0.length c1_0), (.slice A1_1 l1_1.length c1_1)] 73 (0, 0))) ∧ Aside0 (Below w.heap.size w w'))
    case atStart => exact ⟨(0), (by first | rfl | (simp; done) | (simp [*]; done) | (simp [isE0, isE1]; done)), H', ⟨Nat.le_refl _⟩, ⟨by (with_reducible repeat (first | refine blk_drewN ?_ _ | refine blk_drew ?_ | refine blk_alloc ?_ _)); exact BK136.out⟩, ⟨by (with_reducible repeat (first | refine blk_drewN ?_ _ | refine blk_drew ?_ | refine blk_alloc ?_ _)); exact BK137.out⟩, ⟨by repeat (first | (with_reducible first | exact HB.out | apply below_alloc | apply pw_below_drewN | apply below_drew1 | refine below_set ?_ GE136.out | refine below_set ?_ GE137.out) | exact HB.out)⟩⟩
    case round =>
     clear H'
     try clear c1
     try clear p2
     try clear c4
     try clear c6
     try clear c6b0
     try clear c6b1
     try clear c6b2
     try clear c7
     try clear c10
     try clear c13
     try clear hcz11_0
     try clear hcz11_1
     try clear hcz12_0
     try clear hcz12_1
     try clear hcz8_0
     try clear hcz8_1
     try clear hcz9_0
     try clear hcz9_1
     try clear hfz11_0
     try clear hfz11_1
     try clear hfz12_0
     try clear hfz12_1
     try clear hfz8_0
     try clear hfz8_1
     try clear hfz9_0
     try clear hfz9_1
     try clear p2
     obtain ⟨x5_2, rfl, HA, HK2, BK136, BK137, HB⟩ := hrel
     cases gk with
     | zero => exact absurd HA.out (by simp [spec_SameSurface.l0])
     | succ k2 =>
      have H := HA.out
      clear HA
      simp only [spec_SameSurface.l0] at H
      by_cases c14 : x5_2 < (l0_0.length : Int)
      ·rw [if_pos c14] at H
       have c14b0 : decide (x5_2 < (l0_0.length : Int)) = true := decide_eq_true c14
       clear c14
       by_cases c15 : 0 ≤ x5_2
       ·rw [if_pos c15] at H
        have c15b0 : decide (0 ≤ x5_2) = true := decide_eq_true c15
        clear c15
        by_cases c16 : x5_2 < (l1_0.length : Int)
        ·rw [if_pos c16] at H
         have c16b0 : decide (x5_2 < (l1_0.length : Int)) = true := decide_eq_true c16
         clear c16
         by_cases c17 : ((rd_T144 l0_0 x5_2).f0) = ((rd_T144 l1_0 x5_2).f0)
         ·rw [if_pos c17] at H
          have c17b0 : (((rd_T144 l0_0 x5_2).f0) == ((rd_T144 l1_0 x5_2).f0)) = true := beq_iff_eq.mpr c17
          have c17b1 : (((rd_T144 l0_0 x5_2).f0) != ((rd_T144 l1_0 x5_2).f0)) = false := bne_eq_false_iff_eq.mpr c17
          clear c17
          by_cases c18 : ((rd_T144 l0_0 x5_2).f1).toList = ((rd_T144 l1_0 x5_2).f1).toList
          ·rw [if_pos c18] at H
           have c18b0 : (((rd_T144 l0_0 x5_2).f1).toList == ((rd_T144 l1_0 x5_2).f1).toList) = true := beq_iff_eq.mpr c18
           have c18b1 : (((rd_T144 l0_0 x5_2).f1).toList != ((rd_T144 l1_0 x5_2).f1).toList) = false := bne_eq_false_iff_eq.mpr c18
           clear c18
           by_cases c19 : ((rd_T144 l0_0 x5_2).f3).toList = ((rd_T144 l1_0 x5_2).f3).toList
           ·rw [if_pos c19] at H
            have c19b0 : (((rd_T144 l0_0 x5_2).f3).toList == ((rd_T144 l1_0 x5_2).f3).toList) = true := beq_iff_eq.mpr c19
            have c19b1 : (((rd_T144 l0_0 x5_2).f3).toList != ((rd_T144 l1_0 x5_2).f3).toList) = false := bne_eq_false_iff_eq.mpr c19
            clear c19
            replace H := Option.bind_eq_some_iff.mp H
            obtain ⟨t142, A200, H⟩ := H
            replace H : (if t142 = true then ((spec_l07SameInts.f k2 ((rd_T144 l0_0 x5_2).f4) ((rd_T144 l1_0 x5_2).f4)).bind fun t143 => (if t143 = true then (spec_SameSurface.l0 k2 (wrap64 (x5_2 + 1)) l0_0 l0_1 l1_0 l1_1) else (some false))) else (some false)) = some r := H
            have A20 := Aside0.mk A200
            clear A200
            by_cases c21 : t142 = true
            ·subst c21
             have H1 : ((spec_l07SameInts.f k2 ((rd_T144 l0_0 x5_2).f4) ((rd_T144 l1_0 x5_2).f4)).bind fun t143 => (if t143 = true then (spec_SameSurface.l0 k2 (wrap64 (x5_2 + 1)) l0_0 l0_1 l1_0 l1_1) else (some false))) = some r := by rw [if_pos rfl] at H; exact H
             clear H
             have H := H1
             clear H1
             replace H := Option.bind_eq_some_iff.mp H
             obtain ⟨t143, A220, H⟩ := H
             replace H : (if t143 = true then (spec_SameSurface.l0 k2 (wrap64 (x5_2 + 1)) l0_0 l0_1 l1_0 l1_1) else (some false)) = some r := H
             have A22 := Aside0.mk A220
             clear A220
             by_cases c23 : t143 = true
             ·subst c23
              have H1 : (spec_SameSurface.l0 k2 (wrap64 (x5_2 + 1)) l0_0 l0_1 l1_0 l1_1) = some r := by rw [if_pos rfl] at H; exact H
              clear H
              have H := H1
              clear H1
              have H' := Aside0.mk H
              clear H
              have hnb24 := NB136_137.out
              have hnc24 := NB137_136.out
              obtain ⟨hcz25_0, hcz25_1, hfz25_0, hfz25_1⟩ := bc2 BK136.out
              have p138 : 0 ≤ (x5_2 : Int) := oa
              have q138 : x5_2 < (l0_0.length : Int) := oa
              obtain ⟨ad138, A138_2, c138_2, A138_4, c138_4, e138, hx138_0, hx138_1, hx138_2, hx138_3, hx138_4, hl138_2, hi138_2, hl138_4, hi138_4⟩ := at_T144 HR0_0.out x5_2 p138 q138
              cases e138
              replace hx138_0 := hbc HB.out hx138_0
              replace hx138_1 := hbc HB.out hx138_1
              replace hx138_2 := hbc HB.out hx138_2
              replace hx138_3 := hbc HB.out hx138_3
              replace hx138_4 := hbc HB.out hx138_4
              have HR138_2 := Aside0.mk hi138_2
              have HC138_2 := Aside0.mk hl138_2
              clear hi138_2 hl138_2
              have HR138_4 := Aside0.mk hi138_4
              have HC138_4 := Aside0.mk hl138_4
              clear hi138_4 hl138_4
              replace p138 := eq_true p138
              replace q138 := eq_true q138
              go_wp2_with (first | ((with_reducible refine gate_dst (N := 6) rfl ?_); (try (refine gate_guard (by rfl) ?_; dsimp only)); refine box_event ?hg (N := 6) ?hd (cs := #[.int .i64 0, .string (⟨#[]⟩ : ByteArray), .slice none 0 0, .string (⟨#[]⟩ : ByteArray), .slice none 0 0]) (t := 144) ?hr ?_; (case hd => rfl); (case hg => rfl); (case hr => first | (go_simp; done) | (go_simp; rfl)); intro gb139 hg w26 hbox hb; have n0_ := Aside0.mk (blk_below (g := gb136) (o := .cells #[.slice (some ad138) l0_0.length c0_0, .slice A0_1 l0_1.length c0_1] 73 (0, 0)) bx hb); have n1_ := Aside0.mk (blk_below (g := gb137) (o := .cells #[.slice A1_0 l1_0.length c1_0, .slice A1_1 l1_1.length c1_1] 73 (0, 0)) bx hb); have n2_ := Aside0.mk (below_step bw hb); have n3_ := Aside0.mk (hbox); have n4_ := Aside0.mk ((bz bw hg : w.heap.size ≤ gb139)); have n5_ := Aside0.mk ((bz bw hg : w.heap.size ≤ gb139)); have n6_ := Aside0.mk ((bl bx hg : gb136 ≠ gb139)); have n7_ := Aside0.mk ((bl' bx hg : gb139 ≠ gb136)); have n8_ := Aside0.mk ((bl bx hg : gb137 ≠ gb139)); have n9_ := Aside0.mk ((bl' bx hg : gb139 ≠ gb137)); clear BK136; clear BK137; clear HB; have BK136 := n0_; have BK137 := n1_; have HB := n2_; have BK139 := n3_; have GW139 := n4_; have GE139 := n5_; have NB136_139 := n6_; have NB139_136 := n7_; have NB137_139 := n8_; have NB139_137 := n9_; clear n0_ n1_ n2_ n3_ n4_ n5_ n6_ n7_ n8_ n9_; clear hb hbox hg; have hnb27 := NB139_136.out; have hnc27 := NB136_139.out; have hnb28 := NB139_137.out; have hnc28 := NB137_139.out; obtain ⟨hcz29_0, hcz29_1, hcz29_2, hcz29_3, hcz29_4, hfz29_0, hfz29_1, hfz29_2, hfz29_3, hfz29_4⟩ := bc5 BK139.out; obtain ⟨hcz30_0, hcz30_1, hfz30_0, hfz30_1⟩ := bc2 BK137.out; have p140 : 0 ≤ (x5_2 : Int) := oa; have q140 : x5_2 < (l1_0.length : Int) := oa; obtain ⟨ad140, A140_2, c140_2, A140_4, c140_4, e140, hx140_0, hx140_1, hx140_2, hx140_3, hx140_4, hl140_2, hi140_2, hl140_4, hi140_4⟩ := at_T144 HR1_0.out x5_2 p140 q140; cases e140; have hn140_0 : ad140.block ≠ gb139 := (by first | exact bn hx140_0 GW139.out | exact bm hx140_0 GW139.out); have hn140_1 : ad140.block ≠ gb139 := (by first | exact bn hx140_0 GW139.out | exact bm hx140_0 GW139.out); have hn140_2 : ad140.block ≠ gb139 := (by first | exact bn hx140_0 GW139.out | exact bm hx140_0 GW139.out); have hn140_3 : ad140.block ≠ gb139 := (by first | exact bn hx140_0 GW139.out | exact bm hx140_0 GW139.out); have hn140_4 : ad140.block ≠ gb139 := (by first | exact bn hx140_0 GW139.out | exact bm hx140_0 GW139.out); replace hx140_0 := hbc HB.out hx140_0; replace hx140_1 := hbc HB.out hx140_1; replace hx140_2 := hbc HB.out hx140_2; replace hx140_3 := hbc HB.out hx140_3; replace hx140_4 := hbc HB.out hx140_4; have HR140_2 := Aside0.mk hi140_2; have HC140_2 := Aside0.mk hl140_2; clear hi140_2 hl140_2; have HR140_4 := Aside0.mk hi140_4; have HC140_4 := Aside0.mk hl140_4; clear hi140_4 hl140_4; replace hx140_0 := fx ⟨gb139, 0, none⟩ (.int .i64 ((rd_T144 l0_0 x5_2).f0)) hx140_0; replace hx140_1 := fx ⟨gb139, 0, none⟩ (.int .i64 ((rd_T144 l0_0 x5_2).f0)) hx140_1; replace hx140_2 := fx ⟨gb139, 0, none⟩ (.int .i64 ((rd_T144 l0_0 x5_2).f0)) hx140_2; replace hx140_3 := fx ⟨gb139, 0, none⟩ (.int .i64 ((rd_T144 l0_0 x5_2).f0)) hx140_3; replace hx140_4 := fx ⟨gb139, 0, none⟩ (.int .i64 ((rd_T144 l0_0 x5_2).f0)) hx140_4; replace hx140_0 := fx ⟨gb139, 1, none⟩ (.string ((rd_T144 l0_0 x5_2).f1)) hx140_0; replace hx140_1 := fx ⟨gb139, 1, none⟩ (.string ((rd_T144 l0_0 x5_2).f1)) hx140_1; replace hx140_2 := fx ⟨gb139, 1, none⟩ (.string ((rd_T144 l0_0 x5_2).f1)) hx140_2; replace hx140_3 := fx ⟨gb139, 1, none⟩ (.string ((rd_T144 l0_0 x5_2).f1)) hx140_3; replace hx140_4 := fx ⟨gb139, 1, none⟩ (.string ((rd_T144 l0_0 x5_2).f1)) hx140_4; replace hx140_0 := fx ⟨gb139, 2, none⟩ (.slice A138_2 ((rd_T144 l0_0 x5_2).f2).length c138_2) hx140_0; replace hx140_1 := fx ⟨gb139, 2, none⟩ (.slice A138_2 ((rd_T144 l0_0 x5_2).f2).length c138_2) hx140_1; replace hx140_2 := fx ⟨gb139, 2, none⟩ (.slice A138_2 ((rd_T144 l0_0 x5_2).f2).length c138_2) hx140_2; replace hx140_3 := fx ⟨gb139, 2, none⟩ (.slice A138_2 ((rd_T144 l0_0 x5_2).f2).length c138_2) hx140_3; replace hx140_4 := fx ⟨gb139, 2, none⟩ (.slice A138_2 ((rd_T144 l0_0 x5_2).f2).length c138_2) hx140_4; replace hx140_0 := fx ⟨gb139, 3, none⟩ (.string ((rd_T144 l0_0 x5_2).f3)) hx140_0; replace hx140_1 := fx ⟨gb139, 3, none⟩ (.string ((rd_T144 l0_0 x5_2).f3)) hx140_1; replace hx140_2 := fx ⟨gb139, 3, none⟩ (.string ((rd_T144 l0_0 x5_2).f3)) hx140_2; replace hx140_3 := fx ⟨gb139, 3, none⟩ (.string ((rd_T144 l0_0 x5_2).f3)) hx140_3; replace hx140_4 := fx ⟨gb139, 3, none⟩ (.string ((rd_T144 l0_0 x5_2).f3)) hx140_4; replace hx140_0 := fx ⟨gb139, 4, none⟩ (.slice A138_4 ((rd_T144 l0_0 x5_2).f4).length c138_4) hx140_0; replace hx140_1 := fx ⟨gb139, 4, none⟩ (.slice A138_4 ((rd_T144 l0_0 x5_2).f4).length c138_4) hx140_1; replace hx140_2 := fx ⟨gb139, 4, none⟩ (.slice A138_4 ((rd_T144 l0_0 x5_2).f4).length c138_4) hx140_2; replace hx140_3 := fx ⟨gb139, 4, none⟩ (.slice A138_4 ((rd_T144 l0_0 x5_2).f4).length c138_4) hx140_3; replace hx140_4 := fx ⟨gb139, 4, none⟩ (.slice A138_4 ((rd_T144 l0_0 x5_2).f4).length c138_4) hx140_4; clear hn140_0; clear hn140_1; clear hn140_2; clear hn140_3; clear hn140_4; replace p140 := eq_true p140; replace q140 := eq_true q140) | ((with_reducible refine gate_dst (N := 7) rfl ?_); (try (refine gate_guard (by rfl) ?_; dsimp only)); refine box_event ?hg (N := 7) ?hd (cs := #[.int .i64 0, .string (⟨#[]⟩ : ByteArray), .slice none 0 0, .string (⟨#[]⟩ : ByteArray), .slice none 0 0]) (t := 144) ?hr ?_; (case hd => rfl); (case hg => rfl); (case hr => first | (go_simp; done) | (go_simp; rfl)); intro gb141 hg w31 hbox hb; have n0_ := Aside0.mk (blk_below (g := gb136) (o := .cells #[.slice (some ad138) l0_0.length c0_0, .slice A0_1 l0_1.length c0_1] 73 (0, 0)) bx hb); have n1_ := Aside0.mk (blk_below (g := gb137) (o := .cells #[.slice (some ad140) l1_0.length c1_0, .slice A1_1 l1_1.length c1_1] 73 (0, 0)) bx hb); have n2_ := Aside0.mk (blk_below (g := gb139) (o := .cells #[.int .i64 ((rd_T144 l0_0 x5_2).f0), .string ((rd_T144 l0_0 x5_2).f1), .slice A138_2 ((rd_T144 l0_0 x5_2).f2).length c138_2, .string ((rd_T144 l0_0 x5_2).f3), .slice A138_4 ((rd_T144 l0_0 x5_2).f4).length c138_4] 144 (0, 0)) bx hb); have n3_ := Aside0.mk (below_step bw hb); have n4_ := Aside0.mk (hbox); have n5_ := Aside0.mk ((bz bw hg : w.heap.size ≤ gb141)); have n6_ := Aside0.mk ((bz bw hg : w.heap.size ≤ gb141)); have n7_ := Aside0.mk ((bl bx hg : gb136 ≠ gb141)); have n8_ := Aside0.mk ((bl' bx hg : gb141 ≠ gb136)); have n9_ := Aside0.mk ((bl bx hg : gb137 ≠ gb141)); have n10_ := Aside0.mk ((bl' bx hg : gb141 ≠ gb137)); have n11_ := Aside0.mk ((bl bx hg : gb139 ≠ gb141)); have n12_ := Aside0.mk ((bl' bx hg : gb141 ≠ gb139)); clear BK136; clear BK137; clear BK139; clear HB; have BK136 := n0_; have BK137 := n1_; have BK139 := n2_; have HB := n3_; have BK141 := n4_; have GW141 := n5_; have GE141 := n6_; have NB136_141 := n7_; have NB141_136 := n8_; have NB137_141 := n9_; have NB141_137 := n10_; have NB139_141 := n11_; have NB141_139 := n12_; clear n0_ n1_ n2_ n3_ n4_ n5_ n6_ n7_ n8_ n9_ n10_ n11_ n12_; clear hb hbox hg; have hnb32 := NB141_136.out; have hnc32 := NB136_141.out; have hnb33 := NB141_137.out; have hnc33 := NB137_141.out; have hnb34 := NB141_139.out; have hnc34 := NB139_141.out; obtain ⟨hcz35_0, hcz35_1, hcz35_2, hcz35_3, hcz35_4, hfz35_0, hfz35_1, hfz35_2, hfz35_3, hfz35_4⟩ := bc5 BK141.out; obtain ⟨hcz36_0, hcz36_1, hcz36_2, hcz36_3, hcz36_4, hfz36_0, hfz36_1, hfz36_2, hfz36_3, hfz36_4⟩ := bc5 BK139.out) | (go_at_call 99; (with_reducible refine (spec_l11SameExprs.calls k2 _ _ ((rd_T144 l0_0 x5_2).f2) _ _ ((rd_T144 l1_0 x5_2).f2) true _ ?side1 ?side2 ?side3 ?side4 A20.out).mono ?_); (case side1 => exact Kd.C_below HR138_2.out bw); (case side2 => exact HC138_2.out); (case side3 => exact Kd.C_below HR140_2.out bw); (case side4 => exact HC140_2.out); rintro e w37 ⟨rfl, hb⟩; have n0_ := Aside0.mk (blk_below (g := gb136) (o := .cells #[.slice (some ad138) l0_0.length c0_0, .slice A0_1 l0_1.length c0_1] 73 (0, 0)) bx hb); have n1_ := Aside0.mk (blk_below (g := gb137) (o := .cells #[.slice (some ad140) l1_0.length c1_0, .slice A1_1 l1_1.length c1_1] 73 (0, 0)) bx hb); have n2_ := Aside0.mk (blk_below (g := gb139) (o := .cells #[.int .i64 ((rd_T144 l0_0 x5_2).f0), .string ((rd_T144 l0_0 x5_2).f1), .slice A138_2 ((rd_T144 l0_0 x5_2).f2).length c138_2, .string ((rd_T144 l0_0 x5_2).f3), .slice A138_4 ((rd_T144 l0_0 x5_2).f4).length c138_4] 144 (0, 0)) bx hb); have n3_ := Aside0.mk (blk_below (g := gb141) (o := .cells #[.int .i64 ((rd_T144 l1_0 x5_2).f0), .string ((rd_T144 l1_0 x5_2).f1), .slice A140_2 ((rd_T144 l1_0 x5_2).f2).length c140_2, .string ((rd_T144 l1_0 x5_2).f3), .slice A140_4 ((rd_T144 l1_0 x5_2).f4).length c140_4] 144 (0, 0)) bx hb); have n4_ := Aside0.mk (below_step bw hb); clear BK136; clear BK137; clear BK139; clear BK141; clear HB; have BK136 := n0_; have BK137 := n1_; have BK139 := n2_; have BK141 := n3_; have HB := n4_; clear n0_ n1_ n2_ n3_ n4_; (try clear hb); (try clear hb2); (try clear hk); (try clear hi); obtain ⟨hcz38_0, hcz38_1, hcz38_2, hcz38_3, hcz38_4, hfz38_0, hfz38_1, hfz38_2, hfz38_3, hfz38_4⟩ := bc5 BK139.out; obtain ⟨hcz39_0, hcz39_1, hcz39_2, hcz39_3, hcz39_4, hfz39_0, hfz39_1, hfz39_2, hfz39_3, hfz39_4⟩ := bc5 BK141.out) | (go_at_call 100; (with_reducible refine (spec_l07SameInts.calls k2 _ _ ((rd_T144 l0_0 x5_2).f4) _ _ ((rd_T144 l1_0 x5_2).f4) true _ ?side1 ?side2 ?side3 ?side4 A22.out).mono ?_); (case side1 => exact kb); (case side2 => exact HC138_4.out); (case side3 => exact kb); (case side4 => exact HC140_4.out); rintro e w' ⟨rfl, ⟨nd, rfl⟩⟩))
              go_roundg k2
              case measure => have := HJ2.out; have := HK2.out; omega
              case rel => exact ⟨(wrap64 (x5_2 + 1)), (by first | rfl | (simp; done) | (simp [*]; done) | (simp [isE0, isE1]; done)), H', ⟨by have := HJ2.out; have := HK2.out; omega⟩, ⟨by (with_reducible repeat (first | refine blk_drewN ?_ _ | refine blk_drew ?_ | refine blk_alloc ?_ _)); exact BK136.out⟩, ⟨by (with_reducible repeat (first | refine blk_drewN ?_ _ | refine blk_drew ?_ | refine blk_alloc ?_ _)); exact BK137.out⟩, ⟨by repeat (first | (with_reducible first | exact HB.out | apply below_alloc | apply pw_below_drewN | apply below_drew1 | refine below_set ?_ GE136.out | refine below_set ?_ GE137.out | refine below_set ?_ GE139.out | refine below_set ?_ GE141.out) | exact HB.out)⟩⟩
             ·replace c23 := Bool.eq_false_iff.mpr c23
              subst c23
              have H1 : (some false) = some r := by rw [if_neg (show ¬ (false = true) by decide)] at H; exact H
              clear H
              have H := H1
              clear H1
              obtain rfl := Option.some.inj H
              have hnb40 := NB136_137.out
              have hnc40 := NB137_136.out
              obtain ⟨hcz41_0, hcz41_1, hfz41_0, hfz41_1⟩ := bc2 BK136.out
              have p138 : 0 ≤ (x5_2 : Int) := oa
              have q138 : x5_2 < (l0_0.length : Int) := oa
              obtain ⟨ad138, A138_2, c138_2, A138_4, c138_4, e138, hx138_0, hx138_1, hx138_2, hx138_3, hx138_4, hl138_2, hi138_2, hl138_4, hi138_4⟩ := at_T144 HR0_0.out x5_2 p138 q138
              cases e138
              replace hx138_0 := hbc HB.out hx138_0
              replace hx138_1 := hbc HB.out hx138_1
              replace hx138_2 := hbc HB.out hx138_2
              replace hx138_3 := hbc HB.out hx138_3
              replace hx138_4 := hbc HB.out hx138_4
              have HR138_2 := Aside0.mk hi138_2
              have HC138_2 := Aside0.mk hl138_2
              clear hi138_2 hl138_2
              have HR138_4 := Aside0.mk hi138_4
              have HC138_4 := Aside0.mk hl138_4
              clear hi138_4 hl138_4
              replace p138 := eq_true p138
              replace q138 := eq_true q138
              go_wp2_with (first | ((with_reducible refine gate_dst (N := 6) rfl ?_); (try (refine gate_guard (by rfl) ?_; dsimp only)); refine box_event ?hg (N := 6) ?hd (cs := #[.int .i64 0, .string (⟨#[]⟩ : ByteArray), .slice none 0 0, .string (⟨#[]⟩ : ByteArray), .slice none 0 0]) (t := 144) ?hr ?_; (case hd => rfl); (case hg => rfl); (case hr => first | (go_simp; done) | (go_simp; rfl)); intro gb139 hg w42 hbox hb; have n0_ := Aside0.mk (blk_below (g := gb136) (o := .cells #[.slice (some ad138) l0_0.length c0_0, .slice A0_1 l0_1.length c0_1] 73 (0, 0)) bx hb); have n1_ := Aside0.mk (blk_below (g := gb137) (o := .cells #[.slice A1_0 l1_0.length c1_0, .slice A1_1 l1_1.length c1_1] 73 (0, 0)) bx hb); have n2_ := Aside0.mk (below_step bw hb); have n3_ := Aside0.mk (hbox); have n4_ := Aside0.mk ((bz bw hg : w.heap.size ≤ gb139)); have n5_ := Aside0.mk ((bz bw hg : w.heap.size ≤ gb139)); have n6_ := Aside0.mk ((bl bx hg : gb136 ≠ gb139)); have n7_ := Aside0.mk ((bl' bx hg : gb139 ≠ gb136)); have n8_ := Aside0.mk ((bl bx hg : gb137 ≠ gb139)); have n9_ := Aside0.mk ((bl' bx hg : gb139 ≠ gb137)); clear BK136; clear BK137; clear HB; have BK136 := n0_; have BK137 := n1_; have HB := n2_; have BK139 := n3_; have GW139 := n4_; have GE139 := n5_; have NB136_139 := n6_; have NB139_136 := n7_; have NB137_139 := n8_; have NB139_137 := n9_; clear n0_ n1_ n2_ n3_ n4_ n5_ n6_ n7_ n8_ n9_; clear hb hbox hg; have hnb43 := NB139_136.out; have hnc43 := NB136_139.out; have hnb44 := NB139_137.out; have hnc44 := NB137_139.out; obtain ⟨hcz45_0, hcz45_1, hcz45_2, hcz45_3, hcz45_4, hfz45_0, hfz45_1, hfz45_2, hfz45_3, hfz45_4⟩ := bc5 BK139.out; obtain ⟨hcz46_0, hcz46_1, hfz46_0, hfz46_1⟩ := bc2 BK137.out; have p140 : 0 ≤ (x5_2 : Int) := oa; have q140 : x5_2 < (l1_0.length : Int) := oa; obtain ⟨ad140, A140_2, c140_2, A140_4, c140_4, e140, hx140_0, hx140_1, hx140_2, hx140_3, hx140_4, hl140_2, hi140_2, hl140_4, hi140_4⟩ := at_T144 HR1_0.out x5_2 p140 q140; cases e140; have hn140_0 : ad140.block ≠ gb139 := (by first | exact bn hx140_0 GW139.out | exact bm hx140_0 GW139.out); have hn140_1 : ad140.block ≠ gb139 := (by first | exact bn hx140_0 GW139.out | exact bm hx140_0 GW139.out); have hn140_2 : ad140.block ≠ gb139 := (by first | exact bn hx140_0 GW139.out | exact bm hx140_0 GW139.out); have hn140_3 : ad140.block ≠ gb139 := (by first | exact bn hx140_0 GW139.out | exact bm hx140_0 GW139.out); have hn140_4 : ad140.block ≠ gb139 := (by first | exact bn hx140_0 GW139.out | exact bm hx140_0 GW139.out); replace hx140_0 := hbc HB.out hx140_0; replace hx140_1 := hbc HB.out hx140_1; replace hx140_2 := hbc HB.out hx140_2; replace hx140_3 := hbc HB.out hx140_3; replace hx140_4 := hbc HB.out hx140_4; have HR140_2 := Aside0.mk hi140_2; have HC140_2 := Aside0.mk hl140_2; clear hi140_2 hl140_2; have HR140_4 := Aside0.mk hi140_4; have HC140_4 := Aside0.mk hl140_4; clear hi140_4 hl140_4; replace hx140_0 := fx ⟨gb139, 0, none⟩ (.int .i64 ((rd_T144 l0_0 x5_2).f0)) hx140_0; replace hx140_1 := fx ⟨gb139, 0, none⟩ (.int .i64 ((rd_T144 l0_0 x5_2).f0)) hx140_1; replace hx140_2 := fx ⟨gb139, 0, none⟩ (.int .i64 ((rd_T144 l0_0 x5_2).f0)) hx140_2; replace hx140_3 := fx ⟨gb139, 0, none⟩ (.int .i64 ((rd_T144 l0_0 x5_2).f0)) hx140_3; replace hx140_4 := fx ⟨gb139, 0, none⟩ (.int .i64 ((rd_T144 l0_0 x5_2).f0)) hx140_4; replace hx140_0 := fx ⟨gb139, 1, none⟩ (.string ((rd_T144 l0_0 x5_2).f1)) hx140_0; replace hx140_1 := fx ⟨gb139, 1, none⟩ (.string ((rd_T144 l0_0 x5_2).f1)) hx140_1; replace hx140_2 := fx ⟨gb139, 1, none⟩ (.string ((rd_T144 l0_0 x5_2).f1)) hx140_2; replace hx140_3 := fx ⟨gb139, 1, none⟩ (.string ((rd_T144 l0_0 x5_2).f1)) hx140_3; replace hx140_4 := fx ⟨gb139, 1, none⟩ (.string ((rd_T144 l0_0 x5_2).f1)) hx140_4; replace hx140_0 := fx ⟨gb139, 2, none⟩ (.slice A138_2 ((rd_T144 l0_0 x5_2).f2).length c138_2) hx140_0; replace hx140_1 := fx ⟨gb139, 2, none⟩ (.slice A138_2 ((rd_T144 l0_0 x5_2).f2).length c138_2) hx140_1; replace hx140_2 := fx ⟨gb139, 2, none⟩ (.slice A138_2 ((rd_T144 l0_0 x5_2).f2).length c138_2) hx140_2; replace hx140_3 := fx ⟨gb139, 2, none⟩ (.slice A138_2 ((rd_T144 l0_0 x5_2).f2).length c138_2) hx140_3; replace hx140_4 := fx ⟨gb139, 2, none⟩ (.slice A138_2 ((rd_T144 l0_0 x5_2).f2).length c138_2) hx140_4; replace hx140_0 := fx ⟨gb139, 3, none⟩ (.string ((rd_T144 l0_0 x5_2).f3)) hx140_0; replace hx140_1 := fx ⟨gb139, 3, none⟩ (.string ((rd_T144 l0_0 x5_2).f3)) hx140_1; replace hx140_2 := fx ⟨gb139, 3, none⟩ (.string ((rd_T144 l0_0 x5_2).f3)) hx140_2; replace hx140_3 := fx ⟨gb139, 3, none⟩ (.string ((rd_T144 l0_0 x5_2).f3)) hx140_3; replace hx140_4 := fx ⟨gb139, 3, none⟩ (.string ((rd_T144 l0_0 x5_2).f3)) hx140_4; replace hx140_0 := fx ⟨gb139, 4, none⟩ (.slice A138_4 ((rd_T144 l0_0 x5_2).f4).length c138_4) hx140_0; replace hx140_1 := fx ⟨gb139, 4, none⟩ (.slice A138_4 ((rd_T144 l0_0 x5_2).f4).length c138_4) hx140_1; replace hx140_2 := fx ⟨gb139, 4, none⟩ (.slice A138_4 ((rd_T144 l0_0 x5_2).f4).length c138_4) hx140_2; replace hx140_3 := fx ⟨gb139, 4, none⟩ (.slice A138_4 ((rd_T144 l0_0 x5_2).f4).length c138_4) hx140_3; replace hx140_4 := fx ⟨gb139, 4, none⟩ (.slice A138_4 ((rd_T144 l0_0 x5_2).f4).length c138_4) hx140_4; clear hn140_0; clear hn140_1; clear hn140_2; clear hn140_3; clear hn140_4; replace p140 := eq_true p140; replace q140 := eq_true q140) | ((with_reducible refine gate_dst (N := 7) rfl ?_); (try (refine gate_guard (by rfl) ?_; dsimp only)); refine box_event ?hg (N := 7) ?hd (cs := #[.int .i64 0, .string (⟨#[]⟩ : ByteArray), .slice none 0 0, .string (⟨#[]⟩ : ByteArray), .slice none 0 0]) (t := 144) ?hr ?_; (case hd => rfl); (case hg => rfl); (case hr => first | (go_simp; done) | (go_simp; rfl)); intro gb141 hg w47 hbox hb; have n0_ := Aside0.mk (blk_below (g := gb136) (o := .cells #[.slice (some ad138) l0_0.length c0_0, .slice A0_1 l0_1.length c0_1] 73 (0, 0)) bx hb); have n1_ := Aside0.mk (blk_below (g := gb137) (o := .cells #[.slice (some ad140) l1_0.length c1_0, .slice A1_1 l1_1.length c1_1] 73 (0, 0)) bx hb); have n2_ := Aside0.mk (blk_below (g := gb139) (o := .cells #[.int .i64 ((rd_T144 l0_0 x5_2).f0), .string ((rd_T144 l0_0 x5_2).f1), .slice A138_2 ((rd_T144 l0_0 x5_2).f2).length c138_2, .string ((rd_T144 l0_0 x5_2).f3), .slice A138_4 ((rd_T144 l0_0 x5_2).f4).length c138_4] 144 (0, 0)) bx hb); have n3_ := Aside0.mk (below_step bw hb); have n4_ := Aside0.mk (hbox); have n5_ := Aside0.mk ((bz bw hg : w.heap.size ≤ gb141)); have n6_ := Aside0.mk ((bz bw hg : w.heap.size ≤ gb141)); have n7_ := Aside0.mk ((bl bx hg : gb136 ≠ gb141)); have n8_ := Aside0.mk ((bl' bx hg : gb141 ≠ gb136)); have n9_ := Aside0.mk ((bl bx hg : gb137 ≠ gb141)); have n10_ := Aside0.mk ((bl' bx hg : gb141 ≠ gb137)); have n11_ := Aside0.mk ((bl bx hg : gb139 ≠ gb141)); have n12_ := Aside0.mk ((bl' bx hg : gb141 ≠ gb139)); clear BK136; clear BK137; clear BK139; clear HB; have BK136 := n0_; have BK137 := n1_; have BK139 := n2_; have HB := n3_; have BK141 := n4_; have GW141 := n5_; have GE141 := n6_; have NB136_141 := n7_; have NB141_136 := n8_; have NB137_141 := n9_; have NB141_137 := n10_; have NB139_141 := n11_; have NB141_139 := n12_; clear n0_ n1_ n2_ n3_ n4_ n5_ n6_ n7_ n8_ n9_ n10_ n11_ n12_; clear hb hbox hg; have hnb48 := NB141_136.out; have hnc48 := NB136_141.out; have hnb49 := NB141_137.out; have hnc49 := NB137_141.out; have hnb50 := NB141_139.out; have hnc50 := NB139_141.out; obtain ⟨hcz51_0, hcz51_1, hcz51_2, hcz51_3, hcz51_4, hfz51_0, hfz51_1, hfz51_2, hfz51_3, hfz51_4⟩ := bc5 BK141.out; obtain ⟨hcz52_0, hcz52_1, hcz52_2, hcz52_3, hcz52_4, hfz52_0, hfz52_1, hfz52_2, hfz52_3, hfz52_4⟩ := bc5 BK139.out) | (go_at_call 99; (with_reducible refine (spec_l11SameExprs.calls k2 _ _ ((rd_T144 l0_0 x5_2).f2) _ _ ((rd_T144 l1_0 x5_2).f2) true _ ?side1 ?side2 ?side3 ?side4 A20.out).mono ?_); (case side1 => exact Kd.C_below HR138_2.out bw); (case side2 => exact HC138_2.out); (case side3 => exact Kd.C_below HR140_2.out bw); (case side4 => exact HC140_2.out); rintro e w53 ⟨rfl, hb⟩; have n0_ := Aside0.mk (blk_below (g := gb136) (o := .cells #[.slice (some ad138) l0_0.length c0_0, .slice A0_1 l0_1.length c0_1] 73 (0, 0)) bx hb); have n1_ := Aside0.mk (blk_below (g := gb137) (o := .cells #[.slice (some ad140) l1_0.length c1_0, .slice A1_1 l1_1.length c1_1] 73 (0, 0)) bx hb); have n2_ := Aside0.mk (blk_below (g := gb139) (o := .cells #[.int .i64 ((rd_T144 l0_0 x5_2).f0), .string ((rd_T144 l0_0 x5_2).f1), .slice A138_2 ((rd_T144 l0_0 x5_2).f2).length c138_2, .string ((rd_T144 l0_0 x5_2).f3), .slice A138_4 ((rd_T144 l0_0 x5_2).f4).length c138_4] 144 (0, 0)) bx hb); have n3_ := Aside0.mk (blk_below (g := gb141) (o := .cells #[.int .i64 ((rd_T144 l1_0 x5_2).f0), .string ((rd_T144 l1_0 x5_2).f1), .slice A140_2 ((rd_T144 l1_0 x5_2).f2).length c140_2, .string ((rd_T144 l1_0 x5_2).f3), .slice A140_4 ((rd_T144 l1_0 x5_2).f4).length c140_4] 144 (0, 0)) bx hb); have n4_ := Aside0.mk (below_step bw hb); clear BK136; clear BK137; clear BK139; clear BK141; clear HB; have BK136 := n0_; have BK137 := n1_; have BK139 := n2_; have BK141 := n3_; have HB := n4_; clear n0_ n1_ n2_ n3_ n4_; (try clear hb); (try clear hb2); (try clear hk); (try clear hi); obtain ⟨hcz54_0, hcz54_1, hcz54_2, hcz54_3, hcz54_4, hfz54_0, hfz54_1, hfz54_2, hfz54_3, hfz54_4⟩ := bc5 BK139.out; obtain ⟨hcz55_0, hcz55_1, hcz55_2, hcz55_3, hcz55_4, hfz55_0, hfz55_1, hfz55_2, hfz55_3, hfz55_4⟩ := bc5 BK141.out) | (go_at_call 100; (with_reducible refine (spec_l07SameInts.calls k2 _ _ ((rd_T144 l0_0 x5_2).f4) _ _ ((rd_T144 l1_0 x5_2).f4) false _ ?side1 ?side2 ?side3 ?side4 A22.out).mono ?_); (case side1 => exact kb); (case side2 => exact HC138_4.out); (case side3 => exact kb); (case side4 => exact HC140_4.out); rintro e w' ⟨rfl, ⟨nd, rfl⟩⟩))
              go_ret
              exact ⟨by first | rfl | (simp [errW_none, errW_some] <;> rfl) | (simp [*, errW_none, errW_some] <;> rfl), by repeat (first | (with_reducible first | exact HB.out | apply below_alloc | apply pw_below_drewN | apply below_drew1 | refine below_set ?_ GE136.out | refine below_set ?_ GE137.out | refine below_set ?_ GE139.out | refine below_set ?_ GE141.out) | exact HB.out)⟩
            ·replace c21 := Bool.eq_false_iff.mpr c21
             subst c21
             have H1 : (some false) = some r := by rw [if_neg (show ¬ (false = true) by decide)] at H; exact H
             clear H
             have H := H1
             clear H1
             obtain rfl := Option.some.inj H
             have hnb56 := NB136_137.out
             have hnc56 := NB137_136.out
             obtain ⟨hcz57_0, hcz57_1, hfz57_0, hfz57_1⟩ := bc2 BK136.out
             have p138 : 0 ≤ (x5_2 : Int) := oa
             have q138 : x5_2 < (l0_0.length : Int) := oa
             obtain ⟨ad138, A138_2, c138_2, A138_4, c138_4, e138, hx138_0, hx138_1, hx138_2, hx138_3, hx138_4, hl138_2, hi138_2, hl138_4, hi138_4⟩ := at_T144 HR0_0.out x5_2 p138 q138
             cases e138
             replace hx138_0 := hbc HB.out hx138_0
             replace hx138_1 := hbc HB.out hx138_1
             replace hx138_2 := hbc HB.out hx138_2
             replace hx138_3 := hbc HB.out hx138_3
             replace hx138_4 := hbc HB.out hx138_4
             have HR138_2 := Aside0.mk hi138_2
             have HC138_2 := Aside0.mk hl138_2
             clear hi138_2 hl138_2
             have HR138_4 := Aside0.mk hi138_4
             have HC138_4 := Aside0.mk hl138_4
             clear hi138_4 hl138_4
             replace p138 := eq_true p138
             replace q138 := eq_true q138
             go_wp2_with (first | ((with_reducible refine gate_dst (N := 6) rfl ?_); (try (refine gate_guard (by rfl) ?_; dsimp only)); refine box_event ?hg (N := 6) ?hd (cs := #[.int .i64 0, .string (⟨#[]⟩ : ByteArray), .slice none 0 0, .string (⟨#[]⟩ : ByteArray), .slice none 0 0]) (t := 144) ?hr ?_; (case hd => rfl); (case hg => rfl); (case hr => first | (go_simp; done) | (go_simp; rfl)); intro gb139 hg w58 hbox hb; have n0_ := Aside0.mk (blk_below (g := gb136) (o := .cells #[.slice (some ad138) l0_0.length c0_0, .slice A0_1 l0_1.length c0_1] 73 (0, 0)) bx hb); have n1_ := Aside0.mk (blk_below (g := gb137) (o := .cells #[.slice A1_0 l1_0.length c1_0, .slice A1_1 l1_1.length c1_1] 73 (0, 0)) bx hb); have n2_ := Aside0.mk (below_step bw hb); have n3_ := Aside0.mk (hbox); have n4_ := Aside0.mk ((bz bw hg : w.heap.size ≤ gb139)); have n5_ := Aside0.mk ((bz bw hg : w.heap.size ≤ gb139)); have n6_ := Aside0.mk ((bl bx hg : gb136 ≠ gb139)); have n7_ := Aside0.mk ((bl' bx hg : gb139 ≠ gb136)); have n8_ := Aside0.mk ((bl bx hg : gb137 ≠ gb139)); have n9_ := Aside0.mk ((bl' bx hg : gb139 ≠ gb137)); clear BK136; clear BK137; clear HB; have BK136 := n0_; have BK137 := n1_; have HB := n2_; have BK139 := n3_; have GW139 := n4_; have GE139 := n5_; have NB136_139 := n6_; have NB139_136 := n7_; have NB137_139 := n8_; have NB139_137 := n9_; clear n0_ n1_ n2_ n3_ n4_ n5_ n6_ n7_ n8_ n9_; clear hb hbox hg; have hnb59 := NB139_136.out; have hnc59 := NB136_139.out; have hnb60 := NB139_137.out; have hnc60 := NB137_139.out; obtain ⟨hcz61_0, hcz61_1, hcz61_2, hcz61_3, hcz61_4, hfz61_0, hfz61_1, hfz61_2, hfz61_3, hfz61_4⟩ := bc5 BK139.out; obtain ⟨hcz62_0, hcz62_1, hfz62_0, hfz62_1⟩ := bc2 BK137.out; have p140 : 0 ≤ (x5_2 : Int) := oa; have q140 : x5_2 < (l1_0.length : Int) := oa; obtain ⟨ad140, A140_2, c140_2, A140_4, c140_4, e140, hx140_0, hx140_1, hx140_2, hx140_3, hx140_4, hl140_2, hi140_2, hl140_4, hi140_4⟩ := at_T144 HR1_0.out x5_2 p140 q140; cases e140; have hn140_0 : ad140.block ≠ gb139 := (by first | exact bn hx140_0 GW139.out | exact bm hx140_0 GW139.out); have hn140_1 : ad140.block ≠ gb139 := (by first | exact bn hx140_0 GW139.out | exact bm hx140_0 GW139.out); have hn140_2 : ad140.block ≠ gb139 := (by first | exact bn hx140_0 GW139.out | exact bm hx140_0 GW139.out); have hn140_3 : ad140.block ≠ gb139 := (by first | exact bn hx140_0 GW139.out | exact bm hx140_0 GW139.out); have hn140_4 : ad140.block ≠ gb139 := (by first | exact bn hx140_0 GW139.out | exact bm hx140_0 GW139.out); replace hx140_0 := hbc HB.out hx140_0; replace hx140_1 := hbc HB.out hx140_1; replace hx140_2 := hbc HB.out hx140_2; replace hx140_3 := hbc HB.out hx140_3; replace hx140_4 := hbc HB.out hx140_4; have HR140_2 := Aside0.mk hi140_2; have HC140_2 := Aside0.mk hl140_2; clear hi140_2 hl140_2; have HR140_4 := Aside0.mk hi140_4; have HC140_4 := Aside0.mk hl140_4; clear hi140_4 hl140_4; replace hx140_0 := fx ⟨gb139, 0, none⟩ (.int .i64 ((rd_T144 l0_0 x5_2).f0)) hx140_0; replace hx140_1 := fx ⟨gb139, 0, none⟩ (.int .i64 ((rd_T144 l0_0 x5_2).f0)) hx140_1; replace hx140_2 := fx ⟨gb139, 0, none⟩ (.int .i64 ((rd_T144 l0_0 x5_2).f0)) hx140_2; replace hx140_3 := fx ⟨gb139, 0, none⟩ (.int .i64 ((rd_T144 l0_0 x5_2).f0)) hx140_3; replace hx140_4 := fx ⟨gb139, 0, none⟩ (.int .i64 ((rd_T144 l0_0 x5_2).f0)) hx140_4; replace hx140_0 := fx ⟨gb139, 1, none⟩ (.string ((rd_T144 l0_0 x5_2).f1)) hx140_0; replace hx140_1 := fx ⟨gb139, 1, none⟩ (.string ((rd_T144 l0_0 x5_2).f1)) hx140_1; replace hx140_2 := fx ⟨gb139, 1, none⟩ (.string ((rd_T144 l0_0 x5_2).f1)) hx140_2; replace hx140_3 := fx ⟨gb139, 1, none⟩ (.string ((rd_T144 l0_0 x5_2).f1)) hx140_3; replace hx140_4 := fx ⟨gb139, 1, none⟩ (.string ((rd_T144 l0_0 x5_2).f1)) hx140_4; replace hx140_0 := fx ⟨gb139, 2, none⟩ (.slice A138_2 ((rd_T144 l0_0 x5_2).f2).length c138_2) hx140_0; replace hx140_1 := fx ⟨gb139, 2, none⟩ (.slice A138_2 ((rd_T144 l0_0 x5_2).f2).length c138_2) hx140_1; replace hx140_2 := fx ⟨gb139, 2, none⟩ (.slice A138_2 ((rd_T144 l0_0 x5_2).f2).length c138_2) hx140_2; replace hx140_3 := fx ⟨gb139, 2, none⟩ (.slice A138_2 ((rd_T144 l0_0 x5_2).f2).length c138_2) hx140_3; replace hx140_4 := fx ⟨gb139, 2, none⟩ (.slice A138_2 ((rd_T144 l0_0 x5_2).f2).length c138_2) hx140_4; replace hx140_0 := fx ⟨gb139, 3, none⟩ (.string ((rd_T144 l0_0 x5_2).f3)) hx140_0; replace hx140_1 := fx ⟨gb139, 3, none⟩ (.string ((rd_T144 l0_0 x5_2).f3)) hx140_1; replace hx140_2 := fx ⟨gb139, 3, none⟩ (.string ((rd_T144 l0_0 x5_2).f3)) hx140_2; replace hx140_3 := fx ⟨gb139, 3, none⟩ (.string ((rd_T144 l0_0 x5_2).f3)) hx140_3; replace hx140_4 := fx ⟨gb139, 3, none⟩ (.string ((rd_T144 l0_0 x5_2).f3)) hx140_4; replace hx140_0 := fx ⟨gb139, 4, none⟩ (.slice A138_4 ((rd_T144 l0_0 x5_2).f4).length c138_4) hx140_0; replace hx140_1 := fx ⟨gb139, 4, none⟩ (.slice A138_4 ((rd_T144 l0_0 x5_2).f4).length c138_4) hx140_1; replace hx140_2 := fx ⟨gb139, 4, none⟩ (.slice A138_4 ((rd_T144 l0_0 x5_2).f4).length c138_4) hx140_2; replace hx140_3 := fx ⟨gb139, 4, none⟩ (.slice A138_4 ((rd_T144 l0_0 x5_2).f4).length c138_4) hx140_3; replace hx140_4 := fx ⟨gb139, 4, none⟩ (.slice A138_4 ((rd_T144 l0_0 x5_2).f4).length c138_4) hx140_4; clear hn140_0; clear hn140_1; clear hn140_2; clear hn140_3; clear hn140_4; replace p140 := eq_true p140; replace q140 := eq_true q140) | ((with_reducible refine gate_dst (N := 7) rfl ?_); (try (refine gate_guard (by rfl) ?_; dsimp only)); refine box_event ?hg (N := 7) ?hd (cs := #[.int .i64 0, .string (⟨#[]⟩ : ByteArray), .slice none 0 0, .string (⟨#[]⟩ : ByteArray), .slice none 0 0]) (t := 144) ?hr ?_; (case hd => rfl); (case hg => rfl); (case hr => first | (go_simp; done) | (go_simp; rfl)); intro gb141 hg w63 hbox hb; have n0_ := Aside0.mk (blk_below (g := gb136) (o := .cells #[.slice (some ad138) l0_0.length c0_0, .slice A0_1 l0_1.length c0_1] 73 (0, 0)) bx hb); have n1_ := Aside0.mk (blk_below (g := gb137) (o := .cells #[.slice (some ad140) l1_0.length c1_0, .slice A1_1 l1_1.length c1_1] 73 (0, 0)) bx hb); have n2_ := Aside0.mk (blk_below (g := gb139) (o := .cells #[.int .i64 ((rd_T144 l0_0 x5_2).f0), .string ((rd_T144 l0_0 x5_2).f1), .slice A138_2 ((rd_T144 l0_0 x5_2).f2).length c138_2, .string ((rd_T144 l0_0 x5_2).f3), .slice A138_4 ((rd_T144 l0_0 x5_2).f4).length c138_4] 144 (0, 0)) bx hb); have n3_ := Aside0.mk (below_step bw hb); have n4_ := Aside0.mk (hbox); have n5_ := Aside0.mk ((bz bw hg : w.heap.size ≤ gb141)); have n6_ := Aside0.mk ((bz bw hg : w.heap.size ≤ gb141)); have n7_ := Aside0.mk ((bl bx hg : gb136 ≠ gb141)); have n8_ := Aside0.mk ((bl' bx hg : gb141 ≠ gb136)); have n9_ := Aside0.mk ((bl bx hg : gb137 ≠ gb141)); have n10_ := Aside0.mk ((bl' bx hg : gb141 ≠ gb137)); have n11_ := Aside0.mk ((bl bx hg : gb139 ≠ gb141)); have n12_ := Aside0.mk ((bl' bx hg : gb141 ≠ gb139)); clear BK136; clear BK137; clear BK139; clear HB; have BK136 := n0_; have BK137 := n1_; have BK139 := n2_; have HB := n3_; have BK141 := n4_; have GW141 := n5_; have GE141 := n6_; have NB136_141 := n7_; have NB141_136 := n8_; have NB137_141 := n9_; have NB141_137 := n10_; have NB139_141 := n11_; have NB141_139 := n12_; clear n0_ n1_ n2_ n3_ n4_ n5_ n6_ n7_ n8_ n9_ n10_ n11_ n12_; clear hb hbox hg; have hnb64 := NB141_136.out; have hnc64 := NB136_141.out; have hnb65 := NB141_137.out; have hnc65 := NB137_141.out; have hnb66 := NB141_139.out; have hnc66 := NB139_141.out; obtain ⟨hcz67_0, hcz67_1, hcz67_2, hcz67_3, hcz67_4, hfz67_0, hfz67_1, hfz67_2, hfz67_3, hfz67_4⟩ := bc5 BK141.out; obtain ⟨hcz68_0, hcz68_1, hcz68_2, hcz68_3, hcz68_4, hfz68_0, hfz68_1, hfz68_2, hfz68_3, hfz68_4⟩ := bc5 BK139.out) | (go_at_call 99; (with_reducible refine (spec_l11SameExprs.calls k2 _ _ ((rd_T144 l0_0 x5_2).f2) _ _ ((rd_T144 l1_0 x5_2).f2) false _ ?side1 ?side2 ?side3 ?side4 A20.out).mono ?_); (case side1 => exact Kd.C_below HR138_2.out bw); (case side2 => exact HC138_2.out); (case side3 => exact Kd.C_below HR140_2.out bw); (case side4 => exact HC140_2.out); rintro e w69 ⟨rfl, hb⟩; have n0_ := Aside0.mk (blk_below (g := gb136) (o := .cells #[.slice (some ad138) l0_0.length c0_0, .slice A0_1 l0_1.length c0_1] 73 (0, 0)) bx hb); have n1_ := Aside0.mk (blk_below (g := gb137) (o := .cells #[.slice (some ad140) l1_0.length c1_0, .slice A1_1 l1_1.length c1_1] 73 (0, 0)) bx hb); have n2_ := Aside0.mk (blk_below (g := gb139) (o := .cells #[.int .i64 ((rd_T144 l0_0 x5_2).f0), .string ((rd_T144 l0_0 x5_2).f1), .slice A138_2 ((rd_T144 l0_0 x5_2).f2).length c138_2, .string ((rd_T144 l0_0 x5_2).f3), .slice A138_4 ((rd_T144 l0_0 x5_2).f4).length c138_4] 144 (0, 0)) bx hb); have n3_ := Aside0.mk (blk_below (g := gb141) (o := .cells #[.int .i64 ((rd_T144 l1_0 x5_2).f0), .string ((rd_T144 l1_0 x5_2).f1), .slice A140_2 ((rd_T144 l1_0 x5_2).f2).length c140_2, .string ((rd_T144 l1_0 x5_2).f3), .slice A140_4 ((rd_T144 l1_0 x5_2).f4).length c140_4] 144 (0, 0)) bx hb); have n4_ := Aside0.mk (below_step bw hb); clear BK136; clear BK137; clear BK139; clear BK141; clear HB; have BK136 := n0_; have BK137 := n1_; have BK139 := n2_; have BK141 := n3_; have HB := n4_; clear n0_ n1_ n2_ n3_ n4_; (try clear hb); (try clear hb2); (try clear hk); (try clear hi)))
             go_ret
             exact ⟨by first | rfl | (simp [errW_none, errW_some] <;> rfl) | (simp [*, errW_none, errW_some] <;> rfl), by repeat (first | (with_reducible first | exact HB.out | apply below_alloc | apply pw_below_drewN | apply below_drew1 | refine below_set ?_ GE136.out | refine below_set ?_ GE137.out | refine below_set ?_ GE139.out | refine below_set ?_ GE141.out) | exact HB.out)⟩
           ·rw [if_neg c19] at H
            have c19b0 : (((rd_T144 l0_0 x5_2).f3).toList == ((rd_T144 l1_0 x5_2).f3).toList) = false := beq_eq_false_iff_ne.mpr c19
            have c19b1 : (((rd_T144 l0_0 x5_2).f3).toList != ((rd_T144 l1_0 x5_2).f3).toList) = true := bne_iff_ne.mpr c19
            obtain rfl := Option.some.inj H
            have hnb70 := NB136_137.out
            have hnc70 := NB137_136.out
            obtain ⟨hcz71_0, hcz71_1, hfz71_0, hfz71_1⟩ := bc2 BK136.out
            have p138 : 0 ≤ (x5_2 : Int) := oa
            have q138 : x5_2 < (l0_0.length : Int) := oa
            obtain ⟨ad138, A138_2, c138_2, A138_4, c138_4, e138, hx138_0, hx138_1, hx138_2, hx138_3, hx138_4, hl138_2, hi138_2, hl138_4, hi138_4⟩ := at_T144 HR0_0.out x5_2 p138 q138
            cases e138
            replace hx138_0 := hbc HB.out hx138_0
            replace hx138_1 := hbc HB.out hx138_1
            replace hx138_2 := hbc HB.out hx138_2
            replace hx138_3 := hbc HB.out hx138_3
            replace hx138_4 := hbc HB.out hx138_4
            have HR138_2 := Aside0.mk hi138_2
            have HC138_2 := Aside0.mk hl138_2
            clear hi138_2 hl138_2
            have HR138_4 := Aside0.mk hi138_4
            have HC138_4 := Aside0.mk hl138_4
            clear hi138_4 hl138_4
            replace p138 := eq_true p138
            replace q138 := eq_true q138
            go_wp2_with (first | ((with_reducible refine gate_dst (N := 6) rfl ?_); (try (refine gate_guard (by rfl) ?_; dsimp only)); refine box_event ?hg (N := 6) ?hd (cs := #[.int .i64 0, .string (⟨#[]⟩ : ByteArray), .slice none 0 0, .string (⟨#[]⟩ : ByteArray), .slice none 0 0]) (t := 144) ?hr ?_; (case hd => rfl); (case hg => rfl); (case hr => first | (go_simp; done) | (go_simp; rfl)); intro gb139 hg w72 hbox hb; have n0_ := Aside0.mk (blk_below (g := gb136) (o := .cells #[.slice (some ad138) l0_0.length c0_0, .slice A0_1 l0_1.length c0_1] 73 (0, 0)) bx hb); have n1_ := Aside0.mk (blk_below (g := gb137) (o := .cells #[.slice A1_0 l1_0.length c1_0, .slice A1_1 l1_1.length c1_1] 73 (0, 0)) bx hb); have n2_ := Aside0.mk (below_step bw hb); have n3_ := Aside0.mk (hbox); have n4_ := Aside0.mk ((bz bw hg : w.heap.size ≤ gb139)); have n5_ := Aside0.mk ((bz bw hg : w.heap.size ≤ gb139)); have n6_ := Aside0.mk ((bl bx hg : gb136 ≠ gb139)); have n7_ := Aside0.mk ((bl' bx hg : gb139 ≠ gb136)); have n8_ := Aside0.mk ((bl bx hg : gb137 ≠ gb139)); have n9_ := Aside0.mk ((bl' bx hg : gb139 ≠ gb137)); clear BK136; clear BK137; clear HB; have BK136 := n0_; have BK137 := n1_; have HB := n2_; have BK139 := n3_; have GW139 := n4_; have GE139 := n5_; have NB136_139 := n6_; have NB139_136 := n7_; have NB137_139 := n8_; have NB139_137 := n9_; clear n0_ n1_ n2_ n3_ n4_ n5_ n6_ n7_ n8_ n9_; clear hb hbox hg; have hnb73 := NB139_136.out; have hnc73 := NB136_139.out; have hnb74 := NB139_137.out; have hnc74 := NB137_139.out; obtain ⟨hcz75_0, hcz75_1, hcz75_2, hcz75_3, hcz75_4, hfz75_0, hfz75_1, hfz75_2, hfz75_3, hfz75_4⟩ := bc5 BK139.out; obtain ⟨hcz76_0, hcz76_1, hfz76_0, hfz76_1⟩ := bc2 BK137.out; have p140 : 0 ≤ (x5_2 : Int) := oa; have q140 : x5_2 < (l1_0.length : Int) := oa; obtain ⟨ad140, A140_2, c140_2, A140_4, c140_4, e140, hx140_0, hx140_1, hx140_2, hx140_3, hx140_4, hl140_2, hi140_2, hl140_4, hi140_4⟩ := at_T144 HR1_0.out x5_2 p140 q140; cases e140; have hn140_0 : ad140.block ≠ gb139 := (by first | exact bn hx140_0 GW139.out | exact bm hx140_0 GW139.out); have hn140_1 : ad140.block ≠ gb139 := (by first | exact bn hx140_0 GW139.out | exact bm hx140_0 GW139.out); have hn140_2 : ad140.block ≠ gb139 := (by first | exact bn hx140_0 GW139.out | exact bm hx140_0 GW139.out); have hn140_3 : ad140.block ≠ gb139 := (by first | exact bn hx140_0 GW139.out | exact bm hx140_0 GW139.out); have hn140_4 : ad140.block ≠ gb139 := (by first | exact bn hx140_0 GW139.out | exact bm hx140_0 GW139.out); replace hx140_0 := hbc HB.out hx140_0; replace hx140_1 := hbc HB.out hx140_1; replace hx140_2 := hbc HB.out hx140_2; replace hx140_3 := hbc HB.out hx140_3; replace hx140_4 := hbc HB.out hx140_4; have HR140_2 := Aside0.mk hi140_2; have HC140_2 := Aside0.mk hl140_2; clear hi140_2 hl140_2; have HR140_4 := Aside0.mk hi140_4; have HC140_4 := Aside0.mk hl140_4; clear hi140_4 hl140_4; replace hx140_0 := fx ⟨gb139, 0, none⟩ (.int .i64 ((rd_T144 l0_0 x5_2).f0)) hx140_0; replace hx140_1 := fx ⟨gb139, 0, none⟩ (.int .i64 ((rd_T144 l0_0 x5_2).f0)) hx140_1; replace hx140_2 := fx ⟨gb139, 0, none⟩ (.int .i64 ((rd_T144 l0_0 x5_2).f0)) hx140_2; replace hx140_3 := fx ⟨gb139, 0, none⟩ (.int .i64 ((rd_T144 l0_0 x5_2).f0)) hx140_3; replace hx140_4 := fx ⟨gb139, 0, none⟩ (.int .i64 ((rd_T144 l0_0 x5_2).f0)) hx140_4; replace hx140_0 := fx ⟨gb139, 1, none⟩ (.string ((rd_T144 l0_0 x5_2).f1)) hx140_0; replace hx140_1 := fx ⟨gb139, 1, none⟩ (.string ((rd_T144 l0_0 x5_2).f1)) hx140_1; replace hx140_2 := fx ⟨gb139, 1, none⟩ (.string ((rd_T144 l0_0 x5_2).f1)) hx140_2; replace hx140_3 := fx ⟨gb139, 1, none⟩ (.string ((rd_T144 l0_0 x5_2).f1)) hx140_3; replace hx140_4 := fx ⟨gb139, 1, none⟩ (.string ((rd_T144 l0_0 x5_2).f1)) hx140_4; replace hx140_0 := fx ⟨gb139, 2, none⟩ (.slice A138_2 ((rd_T144 l0_0 x5_2).f2).length c138_2) hx140_0; replace hx140_1 := fx ⟨gb139, 2, none⟩ (.slice A138_2 ((rd_T144 l0_0 x5_2).f2).length c138_2) hx140_1; replace hx140_2 := fx ⟨gb139, 2, none⟩ (.slice A138_2 ((rd_T144 l0_0 x5_2).f2).length c138_2) hx140_2; replace hx140_3 := fx ⟨gb139, 2, none⟩ (.slice A138_2 ((rd_T144 l0_0 x5_2).f2).length c138_2) hx140_3; replace hx140_4 := fx ⟨gb139, 2, none⟩ (.slice A138_2 ((rd_T144 l0_0 x5_2).f2).length c138_2) hx140_4; replace hx140_0 := fx ⟨gb139, 3, none⟩ (.string ((rd_T144 l0_0 x5_2).f3)) hx140_0; replace hx140_1 := fx ⟨gb139, 3, none⟩ (.string ((rd_T144 l0_0 x5_2).f3)) hx140_1; replace hx140_2 := fx ⟨gb139, 3, none⟩ (.string ((rd_T144 l0_0 x5_2).f3)) hx140_2; replace hx140_3 := fx ⟨gb139, 3, none⟩ (.string ((rd_T144 l0_0 x5_2).f3)) hx140_3; replace hx140_4 := fx ⟨gb139, 3, none⟩ (.string ((rd_T144 l0_0 x5_2).f3)) hx140_4; replace hx140_0 := fx ⟨gb139, 4, none⟩ (.slice A138_4 ((rd_T144 l0_0 x5_2).f4).length c138_4) hx140_0; replace hx140_1 := fx ⟨gb139, 4, none⟩ (.slice A138_4 ((rd_T144 l0_0 x5_2).f4).length c138_4) hx140_1; replace hx140_2 := fx ⟨gb139, 4, none⟩ (.slice A138_4 ((rd_T144 l0_0 x5_2).f4).length c138_4) hx140_2; replace hx140_3 := fx ⟨gb139, 4, none⟩ (.slice A138_4 ((rd_T144 l0_0 x5_2).f4).length c138_4) hx140_3; replace hx140_4 := fx ⟨gb139, 4, none⟩ (.slice A138_4 ((rd_T144 l0_0 x5_2).f4).length c138_4) hx140_4; clear hn140_0; clear hn140_1; clear hn140_2; clear hn140_3; clear hn140_4; replace p140 := eq_true p140; replace q140 := eq_true q140) | ((with_reducible refine gate_dst (N := 7) rfl ?_); (try (refine gate_guard (by rfl) ?_; dsimp only)); refine box_event ?hg (N := 7) ?hd (cs := #[.int .i64 0, .string (⟨#[]⟩ : ByteArray), .slice none 0 0, .string (⟨#[]⟩ : ByteArray), .slice none 0 0]) (t := 144) ?hr ?_; (case hd => rfl); (case hg => rfl); (case hr => first | (go_simp; done) | (go_simp; rfl)); intro gb141 hg w77 hbox hb; have n0_ := Aside0.mk (blk_below (g := gb136) (o := .cells #[.slice (some ad138) l0_0.length c0_0, .slice A0_1 l0_1.length c0_1] 73 (0, 0)) bx hb); have n1_ := Aside0.mk (blk_below (g := gb137) (o := .cells #[.slice (some ad140) l1_0.length c1_0, .slice A1_1 l1_1.length c1_1] 73 (0, 0)) bx hb); have n2_ := Aside0.mk (blk_below (g := gb139) (o := .cells #[.int .i64 ((rd_T144 l0_0 x5_2).f0), .string ((rd_T144 l0_0 x5_2).f1), .slice A138_2 ((rd_T144 l0_0 x5_2).f2).length c138_2, .string ((rd_T144 l0_0 x5_2).f3), .slice A138_4 ((rd_T144 l0_0 x5_2).f4).length c138_4] 144 (0, 0)) bx hb); have n3_ := Aside0.mk (below_step bw hb); have n4_ := Aside0.mk (hbox); have n5_ := Aside0.mk ((bz bw hg : w.heap.size ≤ gb141)); have n6_ := Aside0.mk ((bz bw hg : w.heap.size ≤ gb141)); have n7_ := Aside0.mk ((bl bx hg : gb136 ≠ gb141)); have n8_ := Aside0.mk ((bl' bx hg : gb141 ≠ gb136)); have n9_ := Aside0.mk ((bl bx hg : gb137 ≠ gb141)); have n10_ := Aside0.mk ((bl' bx hg : gb141 ≠ gb137)); have n11_ := Aside0.mk ((bl bx hg : gb139 ≠ gb141)); have n12_ := Aside0.mk ((bl' bx hg : gb141 ≠ gb139)); clear BK136; clear BK137; clear BK139; clear HB; have BK136 := n0_; have BK137 := n1_; have BK139 := n2_; have HB := n3_; have BK141 := n4_; have GW141 := n5_; have GE141 := n6_; have NB136_141 := n7_; have NB141_136 := n8_; have NB137_141 := n9_; have NB141_137 := n10_; have NB139_141 := n11_; have NB141_139 := n12_; clear n0_ n1_ n2_ n3_ n4_ n5_ n6_ n7_ n8_ n9_ n10_ n11_ n12_; clear hb hbox hg; have hnb78 := NB141_136.out; have hnc78 := NB136_141.out; have hnb79 := NB141_137.out; have hnc79 := NB137_141.out; have hnb80 := NB141_139.out; have hnc80 := NB139_141.out; obtain ⟨hcz81_0, hcz81_1, hcz81_2, hcz81_3, hcz81_4, hfz81_0, hfz81_1, hfz81_2, hfz81_3, hfz81_4⟩ := bc5 BK141.out; obtain ⟨hcz82_0, hcz82_1, hcz82_2, hcz82_3, hcz82_4, hfz82_0, hfz82_1, hfz82_2, hfz82_3, hfz82_4⟩ := bc5 BK139.out))
            go_ret
            exact ⟨by first | rfl | (simp [errW_none, errW_some] <;> rfl) | (simp [*, errW_none, errW_some] <;> rfl), by repeat (first | (with_reducible first | exact HB.out | apply below_alloc | apply pw_below_drewN | apply below_drew1 | refine below_set ?_ GE136.out | refine below_set ?_ GE137.out | refine below_set ?_ GE139.out | refine below_set ?_ GE141.out) | exact HB.out)⟩
          ·rw [if_neg c18] at H
           have c18b0 : (((rd_T144 l0_0 x5_2).f1).toList == ((rd_T144 l1_0 x5_2).f1).toList) = false := beq_eq_false_iff_ne.mpr c18
           have c18b1 : (((rd_T144 l0_0 x5_2).f1).toList != ((rd_T144 l1_0 x5_2).f1).toList) = true := bne_iff_ne.mpr c18
           obtain rfl := Option.some.inj H
           have hnb83 := NB136_137.out
           have hnc83 := NB137_136.out
           obtain ⟨hcz84_0, hcz84_1, hfz84_0, hfz84_1⟩ := bc2 BK136.out
           have p138 : 0 ≤ (x5_2 : Int) := oa
           have q138 : x5_2 < (l0_0.length : Int) := oa
           obtain ⟨ad138, A138_2, c138_2, A138_4, c138_4, e138, hx138_0, hx138_1, hx138_2, hx138_3, hx138_4, hl138_2, hi138_2, hl138_4, hi138_4⟩ := at_T144 HR0_0.out x5_2 p138 q138
           cases e138
           replace hx138_0 := hbc HB.out hx138_0
           replace hx138_1 := hbc HB.out hx138_1
           replace hx138_2 := hbc HB.out hx138_2
           replace hx138_3 := hbc HB.out hx138_3
           replace hx138_4 := hbc HB.out hx138_4
           have HR138_2 := Aside0.mk hi138_2
           have HC138_2 := Aside0.mk hl138_2
           clear hi138_2 hl138_2
           have HR138_4 := Aside0.mk hi138_4
           have HC138_4 := Aside0.mk hl138_4
           clear hi138_4 hl138_4
           replace p138 := eq_true p138
           replace q138 := eq_true q138
           go_wp2_with (first | ((with_reducible refine gate_dst (N := 6) rfl ?_); (try (refine gate_guard (by rfl) ?_; dsimp only)); refine box_event ?hg (N := 6) ?hd (cs := #[.int .i64 0, .string (⟨#[]⟩ : ByteArray), .slice none 0 0, .string (⟨#[]⟩ : ByteArray), .slice none 0 0]) (t := 144) ?hr ?_; (case hd => rfl); (case hg => rfl); (case hr => first | (go_simp; done) | (go_simp; rfl)); intro gb139 hg w85 hbox hb; have n0_ := Aside0.mk (blk_below (g := gb136) (o := .cells #[.slice (some ad138) l0_0.length c0_0, .slice A0_1 l0_1.length c0_1] 73 (0, 0)) bx hb); have n1_ := Aside0.mk (blk_below (g := gb137) (o := .cells #[.slice A1_0 l1_0.length c1_0, .slice A1_1 l1_1.length c1_1] 73 (0, 0)) bx hb); have n2_ := Aside0.mk (below_step bw hb); have n3_ := Aside0.mk (hbox); have n4_ := Aside0.mk ((bz bw hg : w.heap.size ≤ gb139)); have n5_ := Aside0.mk ((bz bw hg : w.heap.size ≤ gb139)); have n6_ := Aside0.mk ((bl bx hg : gb136 ≠ gb139)); have n7_ := Aside0.mk ((bl' bx hg : gb139 ≠ gb136)); have n8_ := Aside0.mk ((bl bx hg : gb137 ≠ gb139)); have n9_ := Aside0.mk ((bl' bx hg : gb139 ≠ gb137)); clear BK136; clear BK137; clear HB; have BK136 := n0_; have BK137 := n1_; have HB := n2_; have BK139 := n3_; have GW139 := n4_; have GE139 := n5_; have NB136_139 := n6_; have NB139_136 := n7_; have NB137_139 := n8_; have NB139_137 := n9_; clear n0_ n1_ n2_ n3_ n4_ n5_ n6_ n7_ n8_ n9_; clear hb hbox hg; have hnb86 := NB139_136.out; have hnc86 := NB136_139.out; have hnb87 := NB139_137.out; have hnc87 := NB137_139.out; obtain ⟨hcz88_0, hcz88_1, hcz88_2, hcz88_3, hcz88_4, hfz88_0, hfz88_1, hfz88_2, hfz88_3, hfz88_4⟩ := bc5 BK139.out; obtain ⟨hcz89_0, hcz89_1, hfz89_0, hfz89_1⟩ := bc2 BK137.out; have p140 : 0 ≤ (x5_2 : Int) := oa; have q140 : x5_2 < (l1_0.length : Int) := oa; obtain ⟨ad140, A140_2, c140_2, A140_4, c140_4, e140, hx140_0, hx140_1, hx140_2, hx140_3, hx140_4, hl140_2, hi140_2, hl140_4, hi140_4⟩ := at_T144 HR1_0.out x5_2 p140 q140; cases e140; have hn140_0 : ad140.block ≠ gb139 := (by first | exact bn hx140_0 GW139.out | exact bm hx140_0 GW139.out); have hn140_1 : ad140.block ≠ gb139 := (by first | exact bn hx140_0 GW139.out | exact bm hx140_0 GW139.out); have hn140_2 : ad140.block ≠ gb139 := (by first | exact bn hx140_0 GW139.out | exact bm hx140_0 GW139.out); have hn140_3 : ad140.block ≠ gb139 := (by first | exact bn hx140_0 GW139.out | exact bm hx140_0 GW139.out); have hn140_4 : ad140.block ≠ gb139 := (by first | exact bn hx140_0 GW139.out | exact bm hx140_0 GW139.out); replace hx140_0 := hbc HB.out hx140_0; replace hx140_1 := hbc HB.out hx140_1; replace hx140_2 := hbc HB.out hx140_2; replace hx140_3 := hbc HB.out hx140_3; replace hx140_4 := hbc HB.out hx140_4; have HR140_2 := Aside0.mk hi140_2; have HC140_2 := Aside0.mk hl140_2; clear hi140_2 hl140_2; have HR140_4 := Aside0.mk hi140_4; have HC140_4 := Aside0.mk hl140_4; clear hi140_4 hl140_4; replace hx140_0 := fx ⟨gb139, 0, none⟩ (.int .i64 ((rd_T144 l0_0 x5_2).f0)) hx140_0; replace hx140_1 := fx ⟨gb139, 0, none⟩ (.int .i64 ((rd_T144 l0_0 x5_2).f0)) hx140_1; replace hx140_2 := fx ⟨gb139, 0, none⟩ (.int .i64 ((rd_T144 l0_0 x5_2).f0)) hx140_2; replace hx140_3 := fx ⟨gb139, 0, none⟩ (.int .i64 ((rd_T144 l0_0 x5_2).f0)) hx140_3; replace hx140_4 := fx ⟨gb139, 0, none⟩ (.int .i64 ((rd_T144 l0_0 x5_2).f0)) hx140_4; replace hx140_0 := fx ⟨gb139, 1, none⟩ (.string ((rd_T144 l0_0 x5_2).f1)) hx140_0; replace hx140_1 := fx ⟨gb139, 1, none⟩ (.string ((rd_T144 l0_0 x5_2).f1)) hx140_1; replace hx140_2 := fx ⟨gb139, 1, none⟩ (.string ((rd_T144 l0_0 x5_2).f1)) hx140_2; replace hx140_3 := fx ⟨gb139, 1, none⟩ (.string ((rd_T144 l0_0 x5_2).f1)) hx140_3; replace hx140_4 := fx ⟨gb139, 1, none⟩ (.string ((rd_T144 l0_0 x5_2).f1)) hx140_4; replace hx140_0 := fx ⟨gb139, 2, none⟩ (.slice A138_2 ((rd_T144 l0_0 x5_2).f2).length c138_2) hx140_0; replace hx140_1 := fx ⟨gb139, 2, none⟩ (.slice A138_2 ((rd_T144 l0_0 x5_2).f2).length c138_2) hx140_1; replace hx140_2 := fx ⟨gb139, 2, none⟩ (.slice A138_2 ((rd_T144 l0_0 x5_2).f2).length c138_2) hx140_2; replace hx140_3 := fx ⟨gb139, 2, none⟩ (.slice A138_2 ((rd_T144 l0_0 x5_2).f2).length c138_2) hx140_3; replace hx140_4 := fx ⟨gb139, 2, none⟩ (.slice A138_2 ((rd_T144 l0_0 x5_2).f2).length c138_2) hx140_4; replace hx140_0 := fx ⟨gb139, 3, none⟩ (.string ((rd_T144 l0_0 x5_2).f3)) hx140_0; replace hx140_1 := fx ⟨gb139, 3, none⟩ (.string ((rd_T144 l0_0 x5_2).f3)) hx140_1; replace hx140_2 := fx ⟨gb139, 3, none⟩ (.string ((rd_T144 l0_0 x5_2).f3)) hx140_2; replace hx140_3 := fx ⟨gb139, 3, none⟩ (.string ((rd_T144 l0_0 x5_2).f3)) hx140_3; replace hx140_4 := fx ⟨gb139, 3, none⟩ (.string ((rd_T144 l0_0 x5_2).f3)) hx140_4; replace hx140_0 := fx ⟨gb139, 4, none⟩ (.slice A138_4 ((rd_T144 l0_0 x5_2).f4).length c138_4) hx140_0; replace hx140_1 := fx ⟨gb139, 4, none⟩ (.slice A138_4 ((rd_T144 l0_0 x5_2).f4).length c138_4) hx140_1; replace hx140_2 := fx ⟨gb139, 4, none⟩ (.slice A138_4 ((rd_T144 l0_0 x5_2).f4).length c138_4) hx140_2; replace hx140_3 := fx ⟨gb139, 4, none⟩ (.slice A138_4 ((rd_T144 l0_0 x5_2).f4).length c138_4) hx140_3; replace hx140_4 := fx ⟨gb139, 4, none⟩ (.slice A138_4 ((rd_T144 l0_0 x5_2).f4).length c138_4) hx140_4; clear hn140_0; clear hn140_1; clear hn140_2; clear hn140_3; clear hn140_4; replace p140 := eq_true p140; replace q140 := eq_true q140) | ((with_reducible refine gate_dst (N := 7) rfl ?_); (try (refine gate_guard (by rfl) ?_; dsimp only)); refine box_event ?hg (N := 7) ?hd (cs := #[.int .i64 0, .string (⟨#[]⟩ : ByteArray), .slice none 0 0, .string (⟨#[]⟩ : ByteArray), .slice none 0 0]) (t := 144) ?hr ?_; (case hd => rfl); (case hg => rfl); (case hr => first | (go_simp; done) | (go_simp; rfl)); intro gb141 hg w90 hbox hb; have n0_ := Aside0.mk (blk_below (g := gb136) (o := .cells #[.slice (some ad138) l0_0.length c0_0, .slice A0_1 l0_1.length c0_1] 73 (0, 0)) bx hb); have n1_ := Aside0.mk (blk_below (g := gb137) (o := .cells #[.slice (some ad140) l1_0.length c1_0, .slice A1_1 l1_1.length c1_1] 73 (0, 0)) bx hb); have n2_ := Aside0.mk (blk_below (g := gb139) (o := .cells #[.int .i64 ((rd_T144 l0_0 x5_2).f0), .string ((rd_T144 l0_0 x5_2).f1), .slice A138_2 ((rd_T144 l0_0 x5_2).f2).length c138_2, .string ((rd_T144 l0_0 x5_2).f3), .slice A138_4 ((rd_T144 l0_0 x5_2).f4).length c138_4] 144 (0, 0)) bx hb); have n3_ := Aside0.mk (below_step bw hb); have n4_ := Aside0.mk (hbox); have n5_ := Aside0.mk ((bz bw hg : w.heap.size ≤ gb141)); have n6_ := Aside0.mk ((bz bw hg : w.heap.size ≤ gb141)); have n7_ := Aside0.mk ((bl bx hg : gb136 ≠ gb141)); have n8_ := Aside0.mk ((bl' bx hg : gb141 ≠ gb136)); have n9_ := Aside0.mk ((bl bx hg : gb137 ≠ gb141)); have n10_ := Aside0.mk ((bl' bx hg : gb141 ≠ gb137)); have n11_ := Aside0.mk ((bl bx hg : gb139 ≠ gb141)); have n12_ := Aside0.mk ((bl' bx hg : gb141 ≠ gb139)); clear BK136; clear BK137; clear BK139; clear HB; have BK136 := n0_; have BK137 := n1_; have BK139 := n2_; have HB := n3_; have BK141 := n4_; have GW141 := n5_; have GE141 := n6_; have NB136_141 := n7_; have NB141_136 := n8_; have NB137_141 := n9_; have NB141_137 := n10_; have NB139_141 := n11_; have NB141_139 := n12_; clear n0_ n1_ n2_ n3_ n4_ n5_ n6_ n7_ n8_ n9_ n10_ n11_ n12_; clear hb hbox hg; have hnb91 := NB141_136.out; have hnc91 := NB136_141.out; have hnb92 := NB141_137.out; have hnc92 := NB137_141.out; have hnb93 := NB141_139.out; have hnc93 := NB139_141.out; obtain ⟨hcz94_0, hcz94_1, hcz94_2, hcz94_3, hcz94_4, hfz94_0, hfz94_1, hfz94_2, hfz94_3, hfz94_4⟩ := bc5 BK141.out; obtain ⟨hcz95_0, hcz95_1, hcz95_2, hcz95_3, hcz95_4, hfz95_0, hfz95_1, hfz95_2, hfz95_3, hfz95_4⟩ := bc5 BK139.out))
           go_ret
           exact ⟨by first | rfl | (simp [errW_none, errW_some] <;> rfl) | (simp [*, errW_none, errW_some] <;> rfl), by repeat (first | (with_reducible first | exact HB.out | apply below_alloc | apply pw_below_drewN | apply below_drew1 | refine below_set ?_ GE136.out | refine below_set ?_ GE137.out | refine below_set ?_ GE139.out | refine below_set ?_ GE141.out) | exact HB.out)⟩
         ·rw [if_neg c17] at H
          have c17b0 : (((rd_T144 l0_0 x5_2).f0) == ((rd_T144 l1_0 x5_2).f0)) = false := beq_eq_false_iff_ne.mpr c17
          have c17b1 : (((rd_T144 l0_0 x5_2).f0) != ((rd_T144 l1_0 x5_2).f0)) = true := bne_iff_ne.mpr c17
          obtain rfl := Option.some.inj H
          have hnb96 := NB136_137.out
          have hnc96 := NB137_136.out
          obtain ⟨hcz97_0, hcz97_1, hfz97_0, hfz97_1⟩ := bc2 BK136.out
          have p138 : 0 ≤ (x5_2 : Int) := oa
          have q138 : x5_2 < (l0_0.length : Int) := oa
          obtain ⟨ad138, A138_2, c138_2, A138_4, c138_4, e138, hx138_0, hx138_1, hx138_2, hx138_3, hx138_4, hl138_2, hi138_2, hl138_4, hi138_4⟩ := at_T144 HR0_0.out x5_2 p138 q138
          cases e138
          replace hx138_0 := hbc HB.out hx138_0
          replace hx138_1 := hbc HB.out hx138_1
          replace hx138_2 := hbc HB.out hx138_2
          replace hx138_3 := hbc HB.out hx138_3
          replace hx138_4 := hbc HB.out hx138_4
          have HR138_2 := Aside0.mk hi138_2
          have HC138_2 := Aside0.mk hl138_2
          clear hi138_2 hl138_2
          have HR138_4 := Aside0.mk hi138_4
          have HC138_4 := Aside0.mk hl138_4
          clear hi138_4 hl138_4
          replace p138 := eq_true p138
          replace q138 := eq_true q138
          go_wp2_with (first | ((with_reducible refine gate_dst (N := 6) rfl ?_); (try (refine gate_guard (by rfl) ?_; dsimp only)); refine box_event ?hg (N := 6) ?hd (cs := #[.int .i64 0, .string (⟨#[]⟩ : ByteArray), .slice none 0 0, .string (⟨#[]⟩ : ByteArray), .slice none 0 0]) (t := 144) ?hr ?_; (case hd => rfl); (case hg => rfl); (case hr => first | (go_simp; done) | (go_simp; rfl)); intro gb139 hg w98 hbox hb; have n0_ := Aside0.mk (blk_below (g := gb136) (o := .cells #[.slice (some ad138) l0_0.length c0_0, .slice A0_1 l0_1.length c0_1] 73 (0, 0)) bx hb); have n1_ := Aside0.mk (blk_below (g := gb137) (o := .cells #[.slice A1_0 l1_0.length c1_0, .slice A1_1 l1_1.length c1_1] 73 (0, 0)) bx hb); have n2_ := Aside0.mk (below_step bw hb); have n3_ := Aside0.mk (hbox); have n4_ := Aside0.mk ((bz bw hg : w.heap.size ≤ gb139)); have n5_ := Aside0.mk ((bz bw hg : w.heap.size ≤ gb139)); have n6_ := Aside0.mk ((bl bx hg : gb136 ≠ gb139)); have n7_ := Aside0.mk ((bl' bx hg : gb139 ≠ gb136)); have n8_ := Aside0.mk ((bl bx hg : gb137 ≠ gb139)); have n9_ := Aside0.mk ((bl' bx hg : gb139 ≠ gb137)); clear BK136; clear BK137; clear HB; have BK136 := n0_; have BK137 := n1_; have HB := n2_; have BK139 := n3_; have GW139 := n4_; have GE139 := n5_; have NB136_139 := n6_; have NB139_136 := n7_; have NB137_139 := n8_; have NB139_137 := n9_; clear n0_ n1_ n2_ n3_ n4_ n5_ n6_ n7_ n8_ n9_; clear hb hbox hg; have hnb99 := NB139_136.out; have hnc99 := NB136_139.out; have hnb100 := NB139_137.out; have hnc100 := NB137_139.out; obtain ⟨hcz101_0, hcz101_1, hcz101_2, hcz101_3, hcz101_4, hfz101_0, hfz101_1, hfz101_2, hfz101_3, hfz101_4⟩ := bc5 BK139.out; obtain ⟨hcz102_0, hcz102_1, hfz102_0, hfz102_1⟩ := bc2 BK137.out; have p140 : 0 ≤ (x5_2 : Int) := oa; have q140 : x5_2 < (l1_0.length : Int) := oa; obtain ⟨ad140, A140_2, c140_2, A140_4, c140_4, e140, hx140_0, hx140_1, hx140_2, hx140_3, hx140_4, hl140_2, hi140_2, hl140_4, hi140_4⟩ := at_T144 HR1_0.out x5_2 p140 q140; cases e140; have hn140_0 : ad140.block ≠ gb139 := (by first | exact bn hx140_0 GW139.out | exact bm hx140_0 GW139.out); have hn140_1 : ad140.block ≠ gb139 := (by first | exact bn hx140_0 GW139.out | exact bm hx140_0 GW139.out); have hn140_2 : ad140.block ≠ gb139 := (by first | exact bn hx140_0 GW139.out | exact bm hx140_0 GW139.out); have hn140_3 : ad140.block ≠ gb139 := (by first | exact bn hx140_0 GW139.out | exact bm hx140_0 GW139.out); have hn140_4 : ad140.block ≠ gb139 := (by first | exact bn hx140_0 GW139.out | exact bm hx140_0 GW139.out); replace hx140_0 := hbc HB.out hx140_0; replace hx140_1 := hbc HB.out hx140_1; replace hx140_2 := hbc HB.out hx140_2; replace hx140_3 := hbc HB.out hx140_3; replace hx140_4 := hbc HB.out hx140_4; have HR140_2 := Aside0.mk hi140_2; have HC140_2 := Aside0.mk hl140_2; clear hi140_2 hl140_2; have HR140_4 := Aside0.mk hi140_4; have HC140_4 := Aside0.mk hl140_4; clear hi140_4 hl140_4; replace hx140_0 := fx ⟨gb139, 0, none⟩ (.int .i64 ((rd_T144 l0_0 x5_2).f0)) hx140_0; replace hx140_1 := fx ⟨gb139, 0, none⟩ (.int .i64 ((rd_T144 l0_0 x5_2).f0)) hx140_1; replace hx140_2 := fx ⟨gb139, 0, none⟩ (.int .i64 ((rd_T144 l0_0 x5_2).f0)) hx140_2; replace hx140_3 := fx ⟨gb139, 0, none⟩ (.int .i64 ((rd_T144 l0_0 x5_2).f0)) hx140_3; replace hx140_4 := fx ⟨gb139, 0, none⟩ (.int .i64 ((rd_T144 l0_0 x5_2).f0)) hx140_4; replace hx140_0 := fx ⟨gb139, 1, none⟩ (.string ((rd_T144 l0_0 x5_2).f1)) hx140_0; replace hx140_1 := fx ⟨gb139, 1, none⟩ (.string ((rd_T144 l0_0 x5_2).f1)) hx140_1; replace hx140_2 := fx ⟨gb139, 1, none⟩ (.string ((rd_T144 l0_0 x5_2).f1)) hx140_2; replace hx140_3 := fx ⟨gb139, 1, none⟩ (.string ((rd_T144 l0_0 x5_2).f1)) hx140_3; replace hx140_4 := fx ⟨gb139, 1, none⟩ (.string ((rd_T144 l0_0 x5_2).f1)) hx140_4; replace hx140_0 := fx ⟨gb139, 2, none⟩ (.slice A138_2 ((rd_T144 l0_0 x5_2).f2).length c138_2) hx140_0; replace hx140_1 := fx ⟨gb139, 2, none⟩ (.slice A138_2 ((rd_T144 l0_0 x5_2).f2).length c138_2) hx140_1; replace hx140_2 := fx ⟨gb139, 2, none⟩ (.slice A138_2 ((rd_T144 l0_0 x5_2).f2).length c138_2) hx140_2; replace hx140_3 := fx ⟨gb139, 2, none⟩ (.slice A138_2 ((rd_T144 l0_0 x5_2).f2).length c138_2) hx140_3; replace hx140_4 := fx ⟨gb139, 2, none⟩ (.slice A138_2 ((rd_T144 l0_0 x5_2).f2).length c138_2) hx140_4; replace hx140_0 := fx ⟨gb139, 3, none⟩ (.string ((rd_T144 l0_0 x5_2).f3)) hx140_0; replace hx140_1 := fx ⟨gb139, 3, none⟩ (.string ((rd_T144 l0_0 x5_2).f3)) hx140_1; replace hx140_2 := fx ⟨gb139, 3, none⟩ (.string ((rd_T144 l0_0 x5_2).f3)) hx140_2; replace hx140_3 := fx ⟨gb139, 3, none⟩ (.string ((rd_T144 l0_0 x5_2).f3)) hx140_3; replace hx140_4 := fx ⟨gb139, 3, none⟩ (.string ((rd_T144 l0_0 x5_2).f3)) hx140_4; replace hx140_0 := fx ⟨gb139, 4, none⟩ (.slice A138_4 ((rd_T144 l0_0 x5_2).f4).length c138_4) hx140_0; replace hx140_1 := fx ⟨gb139, 4, none⟩ (.slice A138_4 ((rd_T144 l0_0 x5_2).f4).length c138_4) hx140_1; replace hx140_2 := fx ⟨gb139, 4, none⟩ (.slice A138_4 ((rd_T144 l0_0 x5_2).f4).length c138_4) hx140_2; replace hx140_3 := fx ⟨gb139, 4, none⟩ (.slice A138_4 ((rd_T144 l0_0 x5_2).f4).length c138_4) hx140_3; replace hx140_4 := fx ⟨gb139, 4, none⟩ (.slice A138_4 ((rd_T144 l0_0 x5_2).f4).length c138_4) hx140_4; clear hn140_0; clear hn140_1; clear hn140_2; clear hn140_3; clear hn140_4; replace p140 := eq_true p140; replace q140 := eq_true q140) | ((with_reducible refine gate_dst (N := 7) rfl ?_); (try (refine gate_guard (by rfl) ?_; dsimp only)); refine box_event ?hg (N := 7) ?hd (cs := #[.int .i64 0, .string (⟨#[]⟩ : ByteArray), .slice none 0 0, .string (⟨#[]⟩ : ByteArray), .slice none 0 0]) (t := 144) ?hr ?_; (case hd => rfl); (case hg => rfl); (case hr => first | (go_simp; done) | (go_simp; rfl)); intro gb141 hg w103 hbox hb; have n0_ := Aside0.mk (blk_below (g := gb136) (o := .cells #[.slice (some ad138) l0_0.length c0_0, .slice A0_1 l0_1.length c0_1] 73 (0, 0)) bx hb); have n1_ := Aside0.mk (blk_below (g := gb137) (o := .cells #[.slice (some ad140) l1_0.length c1_0, .slice A1_1 l1_1.length c1_1] 73 (0, 0)) bx hb); have n2_ := Aside0.mk (blk_below (g := gb139) (o := .cells #[.int .i64 ((rd_T144 l0_0 x5_2).f0), .string ((rd_T144 l0_0 x5_2).f1), .slice A138_2 ((rd_T144 l0_0 x5_2).f2).length c138_2, .string ((rd_T144 l0_0 x5_2).f3), .slice A138_4 ((rd_T144 l0_0 x5_2).f4).length c138_4] 144 (0, 0)) bx hb); have n3_ := Aside0.mk (below_step bw hb); have n4_ := Aside0.mk (hbox); have n5_ := Aside0.mk ((bz bw hg : w.heap.size ≤ gb141)); have n6_ := Aside0.mk ((bz bw hg : w.heap.size ≤ gb141)); have n7_ := Aside0.mk ((bl bx hg : gb136 ≠ gb141)); have n8_ := Aside0.mk ((bl' bx hg : gb141 ≠ gb136)); have n9_ := Aside0.mk ((bl bx hg : gb137 ≠ gb141)); have n10_ := Aside0.mk ((bl' bx hg : gb141 ≠ gb137)); have n11_ := Aside0.mk ((bl bx hg : gb139 ≠ gb141)); have n12_ := Aside0.mk ((bl' bx hg : gb141 ≠ gb139)); clear BK136; clear BK137; clear BK139; clear HB; have BK136 := n0_; have BK137 := n1_; have BK139 := n2_; have HB := n3_; have BK141 := n4_; have GW141 := n5_; have GE141 := n6_; have NB136_141 := n7_; have NB141_136 := n8_; have NB137_141 := n9_; have NB141_137 := n10_; have NB139_141 := n11_; have NB141_139 := n12_; clear n0_ n1_ n2_ n3_ n4_ n5_ n6_ n7_ n8_ n9_ n10_ n11_ n12_; clear hb hbox hg; have hnb104 := NB141_136.out; have hnc104 := NB136_141.out; have hnb105 := NB141_137.out; have hnc105 := NB137_141.out; have hnb106 := NB141_139.out; have hnc106 := NB139_141.out; obtain ⟨hcz107_0, hcz107_1, hcz107_2, hcz107_3, hcz107_4, hfz107_0, hfz107_1, hfz107_2, hfz107_3, hfz107_4⟩ := bc5 BK141.out; obtain ⟨hcz108_0, hcz108_1, hcz108_2, hcz108_3, hcz108_4, hfz108_0, hfz108_1, hfz108_2, hfz108_3, hfz108_4⟩ := bc5 BK139.out))
          go_ret
          exact ⟨by first | rfl | (simp [errW_none, errW_some] <;> rfl) | (simp [*, errW_none, errW_some] <;> rfl), by repeat (first | (with_reducible first | exact HB.out | apply below_alloc | apply pw_below_drewN | apply below_drew1 | refine below_set ?_ GE136.out | refine below_set ?_ GE137.out | refine below_set ?_ GE139.out | refine below_set ?_ GE141.out) | exact HB.out)⟩
        ·rw [if_neg c16] at H
         exact absurd H (by simp)
       ·rw [if_neg c15] at H
        exact absurd H (by simp)
      ·rw [if_neg c14] at H
       have c14b0 : decide (x5_2 < (l0_0.length : Int)) = false := decide_eq_false c14
       clear c14
       have H' := Aside0.mk H
       clear H
       have hnb109 := NB136_137.out
       have hnc109 := NB137_136.out
       obtain ⟨hcz110_0, hcz110_1, hfz110_0, hfz110_1⟩ := bc2 BK136.out
       go_wp2
       go_loopg [8] k2 (fun kq v8 w' => ∃ (x8_3 : Int), v8 = .int .i64 x8_3 ∧ Aside0 (spec_SameSurface.l1 kq x8_3 l0_0 l0_1 l1_0 l1_1 = some r) ∧ Aside0 (kq ≤ k2) ∧ Aside0 (w'.heap[gb136]? = some (.cells #[(.slice A0_0 l0_0.length c0_0), (.slice A0_1 l0_1.length c0_1)] 73 (0, 0))) ∧ Aside0 (w'.heap[gb137]? = some (.cells #[(.slice A1_0 l1_0.length c1_0), (.slice A1_1 l1_1.length c1_1)] 73 (0, 0))) ∧ Aside0 (Below w.heap.size w w'))
       case atStart => exact ⟨(0), (by first | rfl | (simp; done) | (simp [*]; done) | (simp [isE0, isE1]; done)), H', ⟨Nat.le_refl _⟩, ⟨by (with_reducible repeat (first | refine blk_drewN ?_ _ | refine blk_drew ?_ | refine blk_alloc ?_ _)); exact BK136.out⟩, ⟨by (with_reducible repeat (first | refine blk_drewN ?_ _ | refine blk_drew ?_ | refine blk_alloc ?_ _)); exact BK137.out⟩, ⟨by repeat (first | (with_reducible first | exact HB.out | apply below_alloc | apply pw_below_drewN | apply below_drew1 | refine below_set ?_ GE136.out | refine below_set ?_ GE137.out) | exact HB.out)⟩⟩
       case round =>
        clear H'
        try clear c1
        try clear p1
        try clear q1
        try clear hx1
        try clear c2
        try clear p2
        try clear c3
        try clear c4
        try clear c5
        try clear c6
        try clear c6b0
        try clear c6b1
        try clear c6b2
        try clear p6
        try clear c7
        try clear c8
        try clear c9
        try clear c10
        try clear c13
        try clear p13
        try clear q13
        try clear hx13
        try clear c14
        try clear c14b0
        try clear p14
        try clear q14
        try clear hx14
        try clear c15
        try clear c15b0
        try clear c16
        try clear c16b0
        try clear c17
        try clear c17b0
        try clear c17b1
        try clear c18
        try clear c18b0
        try clear c18b1
        try clear c19
        try clear c19b0
        try clear c19b1
        try clear c21
        try clear c23
        try clear c24
        try clear c27
        try clear c28
        try clear c32
        try clear c33
        try clear c34
        try clear c40
        try clear c41
        try clear c43
        try clear c44
        try clear c48
        try clear c49
        try clear c50
        try clear c56
        try clear c59
        try clear c60
        try clear c64
        try clear p64
        try clear c65
        try clear c66
        try clear c70
        try clear c73
        try clear c74
        try clear c78
        try clear c79
        try clear c80
        try clear c83
        try clear c86
        try clear c87
        try clear c91
        try clear c92
        try clear c93
        try clear c96
        try clear c99
        try clear c100
        try clear c104
        try clear c105
        try clear c106
        try clear c109
        try clear hcz101_0
        try clear hcz101_1
        try clear hcz101_2
        try clear hcz101_3
        try clear hcz101_4
        try clear hcz102_0
        try clear hcz102_1
        try clear hcz107_0
        try clear hcz107_1
        try clear hcz107_2
        try clear hcz107_3
        try clear hcz107_4
        try clear hcz108_0
        try clear hcz108_1
        try clear hcz108_2
        try clear hcz108_3
        try clear hcz108_4
        try clear hcz110_0
        try clear hcz110_1
        try clear hcz11_0
        try clear hcz11_1
        try clear hcz12_0
        try clear hcz12_1
        try clear hcz25_0
        try clear hcz25_1
        try clear hcz29_0
        try clear hcz29_1
        try clear hcz29_2
        try clear hcz29_3
        try clear hcz29_4
        try clear hcz30_0
        try clear hcz30_1
        try clear hcz35_0
        try clear hcz35_1
        try clear hcz35_2
        try clear hcz35_3
        try clear hcz35_4
        try clear hcz36_0
        try clear hcz36_1
        try clear hcz36_2
        try clear hcz36_3
        try clear hcz36_4
        try clear hcz38_0
        try clear hcz38_1
        try clear hcz38_2
        try clear hcz38_3
        try clear hcz38_4
        try clear hcz39_0
        try clear hcz39_1
        try clear hcz39_2
        try clear hcz39_3
        try clear hcz39_4
        try clear hcz41_0
        try clear hcz41_1
        try clear hcz45_0
        try clear hcz45_1
        try clear hcz45_2
        try clear hcz45_3
        try clear hcz45_4
        try clear hcz46_0
        try clear hcz46_1
        try clear hcz51_0
        try clear hcz51_1
        try clear hcz51_2
        try clear hcz51_3
        try clear hcz51_4
        try clear hcz52_0
        try clear hcz52_1
        try clear hcz52_2
        try clear hcz52_3
        try clear hcz52_4
        try clear hcz54_0
        try clear hcz54_1
        try clear hcz54_2
        try clear hcz54_3
        try clear hcz54_4
        try clear hcz55_0
        try clear hcz55_1
        try clear hcz55_2
        try clear hcz55_3
        try clear hcz55_4
        try clear hcz57_0
        try clear hcz57_1
        try clear hcz61_0
        try clear hcz61_1
        try clear hcz61_2
        try clear hcz61_3
        try clear hcz61_4
        try clear hcz62_0
        try clear hcz62_1
        try clear hcz67_0
        try clear hcz67_1
        try clear hcz67_2
        try clear hcz67_3
        try clear hcz67_4
        try clear hcz68_0
        try clear hcz68_1
        try clear hcz68_2
        try clear hcz68_3
        try clear hcz68_4
        try clear hcz71_0
        try clear hcz71_1
        try clear hcz75_0
        try clear hcz75_1
        try clear hcz75_2
        try clear hcz75_3
        try clear hcz75_4
        try clear hcz76_0
        try clear hcz76_1
        try clear hcz81_0
        try clear hcz81_1
        try clear hcz81_2
        try clear hcz81_3
        try clear hcz81_4
        try clear hcz82_0
        try clear hcz82_1
        try clear hcz82_2
        try clear hcz82_3
        try clear hcz82_4
        try clear hcz84_0
        try clear hcz84_1
        try clear hcz88_0
        try clear hcz88_1
        try clear hcz88_2
        try clear hcz88_3
        try clear hcz88_4
        try clear hcz89_0
        try clear hcz89_1
        try clear hcz8_0
        try clear hcz8_1
        try clear hcz94_0
        try clear hcz94_1
        try clear hcz94_2
        try clear hcz94_3
        try clear hcz94_4
        try clear hcz95_0
        try clear hcz95_1
        try clear hcz95_2
        try clear hcz95_3
        try clear hcz95_4
        try clear hcz97_0
        try clear hcz97_1
        try clear hcz9_0
        try clear hcz9_1
        try clear hfz101_0
        try clear hfz101_1
        try clear hfz101_2
        try clear hfz101_3
        try clear hfz101_4
        try clear hfz102_0
        try clear hfz102_1
        try clear hfz107_0
        try clear hfz107_1
        try clear hfz107_2
        try clear hfz107_3
        try clear hfz107_4
        try clear hfz108_0
        try clear hfz108_1
        try clear hfz108_2
        try clear hfz108_3
        try clear hfz108_4
        try clear hfz110_0
        try clear hfz110_1
        try clear hfz11_0
        try clear hfz11_1
        try clear hfz12_0
        try clear hfz12_1
        try clear hfz25_0
        try clear hfz25_1
        try clear hfz29_0
        try clear hfz29_1
        try clear hfz29_2
        try clear hfz29_3
        try clear hfz29_4
        try clear hfz30_0
        try clear hfz30_1
        try clear hfz35_0
        try clear hfz35_1
        try clear hfz35_2
        try clear hfz35_3
        try clear hfz35_4
        try clear hfz36_0
        try clear hfz36_1
        try clear hfz36_2
        try clear hfz36_3
        try clear hfz36_4
        try clear hfz38_0
        try clear hfz38_1
        try clear hfz38_2
        try clear hfz38_3
        try clear hfz38_4
        try clear hfz39_0
        try clear hfz39_1
        try clear hfz39_2
        try clear hfz39_3
        try clear hfz39_4
        try clear hfz41_0
        try clear hfz41_1
        try clear hfz45_0
        try clear hfz45_1
        try clear hfz45_2
        try clear hfz45_3
        try clear hfz45_4
        try clear hfz46_0
        try clear hfz46_1
        try clear hfz51_0
        try clear hfz51_1
        try clear hfz51_2
        try clear hfz51_3
        try clear hfz51_4
        try clear hfz52_0
        try clear hfz52_1
        try clear hfz52_2
        try clear hfz52_3
        try clear hfz52_4
        try clear hfz54_0
        try clear hfz54_1
        try clear hfz54_2
        try clear hfz54_3
        try clear hfz54_4
        try clear hfz55_0
        try clear hfz55_1
        try clear hfz55_2
        try clear hfz55_3
        try clear hfz55_4
        try clear hfz57_0
        try clear hfz57_1
        try clear hfz61_0
        try clear hfz61_1
        try clear hfz61_2
        try clear hfz61_3
        try clear hfz61_4
        try clear hfz62_0
        try clear hfz62_1
        try clear hfz67_0
        try clear hfz67_1
        try clear hfz67_2
        try clear hfz67_3
        try clear hfz67_4
        try clear hfz68_0
        try clear hfz68_1
        try clear hfz68_2
        try clear hfz68_3
        try clear hfz68_4
        try clear hfz71_0
        try clear hfz71_1
        try clear hfz75_0
        try clear hfz75_1
        try clear hfz75_2
        try clear hfz75_3
        try clear hfz75_4
        try clear hfz76_0
        try clear hfz76_1
        try clear hfz81_0
        try clear hfz81_1
        try clear hfz81_2
        try clear hfz81_3
        try clear hfz81_4
        try clear hfz82_0
        try clear hfz82_1
        try clear hfz82_2
        try clear hfz82_3
        try clear hfz82_4
        try clear hfz84_0
        try clear hfz84_1
        try clear hfz88_0
        try clear hfz88_1
        try clear hfz88_2
        try clear hfz88_3
        try clear hfz88_4
        try clear hfz89_0
        try clear hfz89_1
        try clear hfz8_0
        try clear hfz8_1
        try clear hfz94_0
        try clear hfz94_1
        try clear hfz94_2
        try clear hfz94_3
        try clear hfz94_4
        try clear hfz95_0
        try clear hfz95_1
        try clear hfz95_2
        try clear hfz95_3
        try clear hfz95_4
        try clear hfz97_0
        try clear hfz97_1
        try clear hfz9_0
        try clear hfz9_1
        try clear hx138_0
        try clear hx138_1
        try clear hx138_2
        try clear hx138_3
        try clear hx138_4
        try clear hx140_0
        try clear hx140_1
        try clear hx140_2
        try clear hx140_3
        try clear hx140_4
        try clear p138
        try clear p140
        try clear p2
        try clear q138
        try clear q140
        obtain ⟨x8_3, rfl, HA, HK3, BK136, BK137, HB⟩ := hrel
        cases gk with
        | zero => exact absurd HA.out (by simp [spec_SameSurface.l1])
        | succ k3 =>
         have H := HA.out
         clear HA
         simp only [spec_SameSurface.l1] at H
         by_cases c111 : x8_3 < (l0_1.length : Int)
         ·rw [if_pos c111] at H
          have c111b0 : decide (x8_3 < (l0_1.length : Int)) = true := decide_eq_true c111
          clear c111
          by_cases c112 : 0 ≤ x8_3
          ·rw [if_pos c112] at H
           have c112b0 : decide (0 ≤ x8_3) = true := decide_eq_true c112
           clear c112
           by_cases c113 : x8_3 < (l1_1.length : Int)
           ·rw [if_pos c113] at H
            have c113b0 : decide (x8_3 < (l1_1.length : Int)) = true := decide_eq_true c113
            clear c113
            by_cases c114 : ((rd_T148 l0_1 x8_3).f0).toList = ((rd_T148 l1_1 x8_3).f0).toList
            ·rw [if_pos c114] at H
             have c114b0 : (((rd_T148 l0_1 x8_3).f0).toList == ((rd_T148 l1_1 x8_3).f0).toList) = true := beq_iff_eq.mpr c114
             have c114b1 : (((rd_T148 l0_1 x8_3).f0).toList != ((rd_T148 l1_1 x8_3).f0).toList) = false := bne_eq_false_iff_eq.mpr c114
             clear c114
             by_cases c115 : ((rd_T148 l0_1 x8_3).f2) = ((rd_T148 l1_1 x8_3).f2)
             ·rw [if_pos c115] at H
              have c115b0 : (((rd_T148 l0_1 x8_3).f2) == ((rd_T148 l1_1 x8_3).f2)) = true := beq_iff_eq.mpr c115
              have c115b1 : (((rd_T148 l0_1 x8_3).f2) != ((rd_T148 l1_1 x8_3).f2)) = false := bne_eq_false_iff_eq.mpr c115
              clear c115
              replace H := Option.bind_eq_some_iff.mp H
              obtain ⟨t150, A1160, H⟩ := H
              replace H : (if t150 = true then (spec_SameSurface.l1 k3 (wrap64 (x8_3 + 1)) l0_0 l0_1 l1_0 l1_1) else (some false)) = some r := H
              have A116 := Aside0.mk A1160
              clear A1160
              by_cases c117 : t150 = true
              ·subst c117
               have H1 : (spec_SameSurface.l1 k3 (wrap64 (x8_3 + 1)) l0_0 l0_1 l1_0 l1_1) = some r := by rw [if_pos rfl] at H; exact H
               clear H
               have H := H1
               clear H1
               have H' := Aside0.mk H
               clear H
               have hnb118 := NB136_137.out
               have hnc118 := NB137_136.out
               obtain ⟨hcz119_0, hcz119_1, hfz119_0, hfz119_1⟩ := bc2 BK136.out
               try go_wp2
               have n0_ := Aside0.mk (blk_drew BK136.out)
               have n1_ := Aside0.mk (blk_drew BK137.out)
               have n2_ := Aside0.mk (below_drew1 HB.out)
               clear BK136
               clear BK137
               clear HB
               have BK136 := n0_
               have BK137 := n1_
               have HB := n2_
               clear n0_ n1_ n2_
               have p144 : 0 ≤ (x8_3 : Int) := oa
               have q144 : x8_3 < (l0_1.length : Int) := oa
               obtain ⟨ad144, A144_1, c144_1, e144, hx144_0, hx144_1, hx144_2, hl144_1, hi144_1⟩ := at_T148 HR0_1.out x8_3 p144 q144
               have hw144_2 := hx144_2
               have hw144_1 := hx144_1
               have hw144_0 := hx144_0
               cases e144
               replace hx144_0 := hbc HB.out hx144_0
               replace hx144_1 := hbc HB.out hx144_1
               replace hx144_2 := hbc HB.out hx144_2
               have HR144_1 := Aside0.mk hi144_1
               have HC144_1 := Aside0.mk hl144_1
               clear hi144_1 hl144_1
               replace p144 := eq_true p144
               replace q144 := eq_true q144
               have p145 : 0 ≤ (x8_3 : Int) := oa
               have q145 : x8_3 < (l1_1.length : Int) := oa
               obtain ⟨ad145, A145_1, c145_1, e145, hx145_0, hx145_1, hx145_2, hl145_1, hi145_1⟩ := at_T148 HR1_1.out x8_3 p145 q145
               have hw145_2 := hx145_2
               have hw145_1 := hx145_1
               have hw145_0 := hx145_0
               cases e145
               replace hx145_0 := hbc HB.out hx145_0
               replace hx145_1 := hbc HB.out hx145_1
               replace hx145_2 := hbc HB.out hx145_2
               have HR145_1 := Aside0.mk hi145_1
               have HC145_1 := Aside0.mk hl145_1
               clear hi145_1 hl145_1
               replace p145 := eq_true p145
               replace q145 := eq_true q145
               have p146 : 0 ≤ (x8_3 : Int) := oa
               have q146 : x8_3 < (l0_1.length : Int) := oa
               obtain ⟨ad146, A146_1, c146_1, e146, hx146_0, hx146_1, hx146_2, hl146_1, hi146_1⟩ := at_T148 HR0_1.out x8_3 p146 q146
               have hw146_2 := hx146_2
               have hw146_1 := hx146_1
               have hw146_0 := hx146_0
               obtain rfl : ad144 = ad146 := (by injection e146)
               replace hx146_0 := hbc HB.out hx146_0
               replace hx146_1 := hbc HB.out hx146_1
               replace hx146_2 := hbc HB.out hx146_2
               have HR146_1 := Aside0.mk hi146_1
               have HC146_1 := Aside0.mk hl146_1
               clear hi146_1 hl146_1
               replace p146 := eq_true p146
               replace q146 := eq_true q146
               have ea_ := Option.some.inj (hx144_1.symm.trans hx146_1)
               injection ea_ with ea_ en_ ec_
               subst ea_
               subst ec_
               clear en_
               have p147 : 0 ≤ (x8_3 : Int) := oa
               have q147 : x8_3 < (l1_1.length : Int) := oa
               obtain ⟨ad147, A147_1, c147_1, e147, hx147_0, hx147_1, hx147_2, hl147_1, hi147_1⟩ := at_T148 HR1_1.out x8_3 p147 q147
               have hw147_2 := hx147_2
               have hw147_1 := hx147_1
               have hw147_0 := hx147_0
               obtain rfl : ad145 = ad147 := (by injection e147)
               replace hx147_0 := hbc HB.out hx147_0
               replace hx147_1 := hbc HB.out hx147_1
               replace hx147_2 := hbc HB.out hx147_2
               have HR147_1 := Aside0.mk hi147_1
               have HC147_1 := Aside0.mk hl147_1
               clear hi147_1 hl147_1
               replace p147 := eq_true p147
               replace q147 := eq_true q147
               have ea_ := Option.some.inj (hx145_1.symm.trans hx147_1)
               injection ea_ with ea_ en_ ec_
               subst ea_
               subst ec_
               clear en_
               have p148 : 0 ≤ (x8_3 : Int) := oa
               have q148 : x8_3 < (l0_1.length : Int) := oa
               obtain ⟨ad148, A148_1, c148_1, e148, hx148_0, hx148_1, hx148_2, hl148_1, hi148_1⟩ := at_T148 HR0_1.out x8_3 p148 q148
               have hw148_2 := hx148_2
               have hw148_1 := hx148_1
               have hw148_0 := hx148_0
               obtain rfl : ad144 = ad148 := (by injection e148)
               replace hx148_0 := hbc HB.out hx148_0
               replace hx148_1 := hbc HB.out hx148_1
               replace hx148_2 := hbc HB.out hx148_2
               have HR148_1 := Aside0.mk hi148_1
               have HC148_1 := Aside0.mk hl148_1
               clear hi148_1 hl148_1
               replace p148 := eq_true p148
               replace q148 := eq_true q148
               have ea_ := Option.some.inj (hx144_1.symm.trans hx148_1)
               injection ea_ with ea_ en_ ec_
               subst ea_
               subst ec_
               clear en_
               have p149 : 0 ≤ (x8_3 : Int) := oa
               have q149 : x8_3 < (l1_1.length : Int) := oa
               obtain ⟨ad149, A149_1, c149_1, e149, hx149_0, hx149_1, hx149_2, hl149_1, hi149_1⟩ := at_T148 HR1_1.out x8_3 p149 q149
               have hw149_2 := hx149_2
               have hw149_1 := hx149_1
               have hw149_0 := hx149_0
               obtain rfl : ad145 = ad149 := (by injection e149)
               replace hx149_0 := hbc HB.out hx149_0
               replace hx149_1 := hbc HB.out hx149_1
               replace hx149_2 := hbc HB.out hx149_2
               have HR149_1 := Aside0.mk hi149_1
               have HC149_1 := Aside0.mk hl149_1
               clear hi149_1 hl149_1
               replace p149 := eq_true p149
               replace q149 := eq_true q149
               have ea_ := Option.some.inj (hx145_1.symm.trans hx149_1)
               injection ea_ with ea_ en_ ec_
               subst ea_
               subst ec_
               clear en_
               refine start_ (n := 44) (S := fun w' => w'.cell? ⟨gb136, 0, none⟩ = some (.slice A0_0 l0_0.length c0_0) ∧ w'.cell? ⟨gb136, 1, none⟩ = some (.slice (some ad144) l0_1.length c0_1) ∧ w'.cell? ⟨gb137, 0, none⟩ = some (.slice A1_0 l1_0.length c1_0) ∧ w'.cell? ⟨gb137, 1, none⟩ = some (.slice (some ad145) l1_1.length c1_1) ∧ w'.cell? (ad144.add ((x8_3).toNat * 3)) = some (.string ((rd_T148 l0_1 x8_3).f0)) ∧ w'.cell? ⟨(ad144.add ((x8_3).toNat * 3)).block, (ad144.add ((x8_3).toNat * 3)).off + 1, none⟩ = some (.slice A144_1 ((rd_T148 l0_1 x8_3).f1).length c144_1) ∧ w'.cell? ⟨(ad144.add ((x8_3).toNat * 3)).block, (ad144.add ((x8_3).toNat * 3)).off + 2, none⟩ = some (.int .i64 ((rd_T148 l0_1 x8_3).f2)) ∧ w'.cell? (ad145.add ((x8_3).toNat * 3)) = some (.string ((rd_T148 l1_1 x8_3).f0)) ∧ w'.cell? ⟨(ad145.add ((x8_3).toNat * 3)).block, (ad145.add ((x8_3).toNat * 3)).off + 1, none⟩ = some (.slice A145_1 ((rd_T148 l1_1 x8_3).f1).length c145_1) ∧ w'.cell? ⟨(ad145.add ((x8_3).toNat * 3)).block, (ad145.add ((x8_3).toNat * 3)).off + 2, none⟩ = some (.int .i64 ((rd_T148 l1_1 x8_3).f2)) ∧ w'.cell? (ad144.add ((x8_3).toNat * 3)) = some (.string ((rd_T148 l0_1 x8_3).f0)) ∧ w'.cell? ⟨(ad144.add ((x8_3).toNat * 3)).block, (ad144.add ((x8_3).toNat * 3)).off + 1, none⟩ = some (.slice A144_1 ((rd_T148 l0_1 x8_3).f1).length c144_1) ∧ w'.cell? ⟨(ad144.add ((x8_3).toNat * 3)).block, (ad144.add ((x8_3).toNat * 3)).off + 2, none⟩ = some (.int .i64 ((rd_T148 l0_1 x8_3).f2)) ∧ w'.cell? (ad145.add ((x8_3).toNat * 3)) = some (.string ((rd_T148 l1_1 x8_3).f0)) ∧ w'.cell? ⟨(ad145.add ((x8_3).toNat * 3)).block, (ad145.add ((x8_3).toNat * 3)).off + 1, none⟩ = some (.slice A145_1 ((rd_T148 l1_1 x8_3).f1).length c145_1) ∧ w'.cell? ⟨(ad145.add ((x8_3).toNat * 3)).block, (ad145.add ((x8_3).toNat * 3)).off + 2, none⟩ = some (.int .i64 ((rd_T148 l1_1 x8_3).f2)) ∧ w'.cell? (ad144.add ((x8_3).toNat * 3)) = some (.string ((rd_T148 l0_1 x8_3).f0)) ∧ w'.cell? ⟨(ad144.add ((x8_3).toNat * 3)).block, (ad144.add ((x8_3).toNat * 3)).off + 1, none⟩ = some (.slice A144_1 ((rd_T148 l0_1 x8_3).f1).length c144_1) ∧ w'.cell? ⟨(ad144.add ((x8_3).toNat * 3)).block, (ad144.add ((x8_3).toNat * 3)).off + 2, none⟩ = some (.int .i64 ((rd_T148 l0_1 x8_3).f2)) ∧ w'.cell? (ad145.add ((x8_3).toNat * 3)) = some (.string ((rd_T148 l1_1 x8_3).f0)) ∧ w'.cell? ⟨(ad145.add ((x8_3).toNat * 3)).block, (ad145.add ((x8_3).toNat * 3)).off + 1, none⟩ = some (.slice A145_1 ((rd_T148 l1_1 x8_3).f1).length c145_1) ∧ w'.cell? ⟨(ad145.add ((x8_3).toNat * 3)).block, (ad145.add ((x8_3).toNat * 3)).off + 2, none⟩ = some (.int .i64 ((rd_T148 l1_1 x8_3).f2))) (ds := []) #[false, false, false, false, false, false, false, false, false, false, false, false, false, false, false, false, false, false, false, false, false, false, false, false, false, false, false, false, false, false, false, false, false, false, false, false, false, false, false, false, false, false, false, false] (by kernel_rfl) rfl rfl ⟨(blk_cell BK136.out 0).trans rfl, (blk_cell BK136.out 1).trans rfl, (blk_cell BK137.out 0).trans rfl, (blk_cell BK137.out 1).trans rfl, ((HB.out.cell (World.block_lt_of_cell? w _ hw144_0)).trans hw144_0), ((HB.out.cell (World.block_lt_of_cell? w _ hw144_1)).trans hw144_1), ((HB.out.cell (World.block_lt_of_cell? w _ hw144_2)).trans hw144_2), ((HB.out.cell (World.block_lt_of_cell? w _ hw145_0)).trans hw145_0), ((HB.out.cell (World.block_lt_of_cell? w _ hw145_1)).trans hw145_1), ((HB.out.cell (World.block_lt_of_cell? w _ hw145_2)).trans hw145_2), ((HB.out.cell (World.block_lt_of_cell? w _ hw146_0)).trans hw146_0), ((HB.out.cell (World.block_lt_of_cell? w _ hw146_1)).trans hw146_1), ((HB.out.cell (World.block_lt_of_cell? w _ hw146_2)).trans hw146_2), ((HB.out.cell (World.block_lt_of_cell? w _ hw147_0)).trans hw147_0), ((HB.out.cell (World.block_lt_of_cell? w _ hw147_1)).trans hw147_1), ((HB.out.cell (World.block_lt_of_cell? w _ hw147_2)).trans hw147_2), ((HB.out.cell (World.block_lt_of_cell? w _ hw148_0)).trans hw148_0), ((HB.out.cell (World.block_lt_of_cell? w _ hw148_1)).trans hw148_1), ((HB.out.cell (World.block_lt_of_cell? w _ hw148_2)).trans hw148_2), ((HB.out.cell (World.block_lt_of_cell? w _ hw149_0)).trans hw149_0), ((HB.out.cell (World.block_lt_of_cell? w _ hw149_1)).trans hw149_1), ((HB.out.cell (World.block_lt_of_cell? w _ hw149_2)).trans hw149_2)⟩ (fun hHeld => ?_); refine with_tabW spec_SameSurface.tab13 spec_SameSurface.bits13 (fun HT_ HW_ => ?_)
               generalize wr.drew = w120 at BK136 BK137 HB HR144_1 HR145_1 HR146_1 HR147_1 HR148_1 HR149_1 hx144_0 hx144_1 hx144_2 hx145_0 hx145_1 hx145_2 hx146_0 hx146_1 hx146_2 hx147_0 hx147_1 hx147_2 hx148_0 hx148_1 hx148_2 hx149_0 hx149_1 hx149_2 hHeld ⊢
               refine pure_ (i := 0) (N := some 84) (v := ?_) (a' := ?_) (bmk 44 1) rfl rfl (any_of HT_.out (by kernel_rfl)) (fun _ _ _ h => h) (Or.inl ⟨by rfl, ?_⟩) ?_ ?_
               rotate_left
               ·intro w'
                go_simp
                with_reducible rfl
               rotate_left
               ·simp only [Act.put, List.setIfInBounds_toArray, List.set_cons_zero, List.set_cons_succ, i64_w, i32_w]
                rfl
               refine pure_ (i := 2) (N := some 86) (v := ?_) (a' := ?_) (bmk 44 5) rfl rfl (any_of HT_.out (by kernel_rfl)) (fun _ _ _ h => h) (Or.inl ⟨by rfl, ?_⟩) ?_ ?_
               rotate_left
               ·intro w'
                go_simp
                with_reducible rfl
               rotate_left
               ·simp only [Act.put, List.setIfInBounds_toArray, List.set_cons_zero, List.set_cons_succ, i64_w, i32_w]
                rfl
               refine pure_ (i := 6) (N := some 90) (v := ?_) (a' := ?_) (bmk 44 69) rfl rfl (any_of HT_.out (by kernel_rfl)) (fun _ _ _ h => h) (Or.inl ⟨by rfl, ?_⟩) ?_ ?_
               rotate_left
               ·intro w'
                go_simp
                with_reducible rfl
               rotate_left
               ·simp only [Act.put, List.setIfInBounds_toArray, List.set_cons_zero, List.set_cons_succ, i64_w, i32_w]
                rfl
               refine pure_ (i := 8) (N := some 92) (v := ?_) (a' := ?_) (bmk 44 325) rfl rfl (any_of HT_.out (by kernel_rfl)) (fun _ _ _ h => h) (Or.inl ⟨by rfl, ?_⟩) ?_ ?_
               rotate_left
               ·intro w'
                go_simp
                with_reducible rfl
               rotate_left
               ·simp only [Act.put, List.setIfInBounds_toArray, List.set_cons_zero, List.set_cons_succ, i64_w, i32_w]
                rfl
               refine take_ (i := 1) (N := some 85) (v := ?_) (a' := ?_) (bmk 44 327) rfl rfl (take_ofW HT_.out HW_.out (by kernel_rfl)) (fun _ _ _ h => h) (Or.inl ⟨by rfl, ?_⟩) hHeld ?_ ?_
               rotate_left
               ·rintro w' ⟨s0, s1, s2, s3, s4, s5, s6, s7, s8, s9, s10, s11, s12, s13, s14, s15, s16, s17, s18, s19, s20, s21⟩
                go_simp
                with_reducible rfl
               rotate_left
               ·simp only [Act.put, List.setIfInBounds_toArray, List.set_cons_zero, List.set_cons_succ, i64_w, i32_w]
                rfl
               refine pure_ (i := 3) (N := some 87) (v := ?_) (a' := ?_) (bmk 44 335) rfl rfl (any_of HT_.out (by kernel_rfl)) (fun _ _ _ h => h) (Or.inl ⟨by rfl, ?_⟩) ?_ ?_
               rotate_left
               ·intro w'
                go_simp
                with_reducible rfl
               rotate_left
               ·simp only [Act.put, List.setIfInBounds_toArray, List.set_cons_zero, List.set_cons_succ, i64_w, i32_w]
                rfl
               refine pure_ (i := 4) (N := some 88) (v := ?_) (a' := ?_) (bmk 44 351) rfl rfl (any_of HT_.out (by kernel_rfl)) (fun _ _ _ h => h) (Or.inl ⟨by rfl, ?_⟩) ?_ ?_
               rotate_left
               ·intro w'
                go_simp
                with_reducible rfl
               rotate_left
               ·simp only [Act.put, List.setIfInBounds_toArray, List.set_cons_zero, List.set_cons_succ, i64_w, i32_w]
                rfl
               refine take_ (i := 5) (N := some 89) (v := ?_) (a' := ?_) (bmk 44 383) rfl rfl (take_ofW HT_.out HW_.out (by kernel_rfl)) (fun _ _ _ h => h) (Or.inl ⟨by rfl, ?_⟩) hHeld ?_ ?_
               rotate_left
               ·rintro w' ⟨s0, s1, s2, s3, s4, s5, s6, s7, s8, s9, s10, s11, s12, s13, s14, s15, s16, s17, s18, s19, s20, s21⟩
                go_simp
                with_reducible rfl
               rotate_left
               ·simp only [Act.put, List.setIfInBounds_toArray, List.set_cons_zero, List.set_cons_succ, i64_w, i32_w]
                rfl
               refine take_ (i := 7) (N := some 91) (v := ?_) (a' := ?_) (bmk 44 511) rfl rfl (take_ofW HT_.out HW_.out (by kernel_rfl)) (fun _ _ _ h => h) (Or.inl ⟨by rfl, ?_⟩) hHeld ?_ ?_
               rotate_left
               ·rintro w' ⟨s0, s1, s2, s3, s4, s5, s6, s7, s8, s9, s10, s11, s12, s13, s14, s15, s16, s17, s18, s19, s20, s21⟩
                go_simp
                with_reducible rfl
               rotate_left
               ·simp only [Act.put, List.setIfInBounds_toArray, List.set_cons_zero, List.set_cons_succ, i64_w, i32_w]
                rfl
               refine pure_ (i := 9) (N := some 93) (v := ?_) (a' := ?_) (bmk 44 1023) rfl rfl (any_of HT_.out (by kernel_rfl)) (fun _ _ _ h => h) (Or.inl ⟨by rfl, ?_⟩) ?_ ?_
               rotate_left
               ·intro w'
                go_simp
                with_reducible rfl
               rotate_left
               ·simp only [Act.put, List.setIfInBounds_toArray, List.set_cons_zero, List.set_cons_succ, i64_w, i32_w]
                rfl
               refine pure_ (i := 10) (N := some 94) (v := ?_) (a' := ?_) (bmk 44 2047) rfl rfl (any_of HT_.out (by kernel_rfl)) (fun _ _ _ h => h) (Or.inl ⟨by rfl, ?_⟩) ?_ ?_
               rotate_left
               ·intro w'
                go_simp
                with_reducible rfl
               rotate_left
               ·simp only [Act.put, List.setIfInBounds_toArray, List.set_cons_zero, List.set_cons_succ, i64_w, i32_w]
                rfl
               refine take_ (i := 11) (N := some 95) (v := ?_) (a' := ?_) (bmk 44 4095) rfl rfl (take_ofW HT_.out HW_.out (by kernel_rfl)) (fun _ _ _ h => h) (Or.inl ⟨by rfl, ?_⟩) hHeld ?_ ?_
               rotate_left
               ·rintro w' ⟨s0, s1, s2, s3, s4, s5, s6, s7, s8, s9, s10, s11, s12, s13, s14, s15, s16, s17, s18, s19, s20, s21⟩
                go_simp
                with_reducible rfl
               rotate_left
               ·simp only [Act.put, List.setIfInBounds_toArray, List.set_cons_zero, List.set_cons_succ, i64_w, i32_w]
                rfl
               refine pure_ (i := 12) (N := some 96) (v := ?_) (a' := ?_) (bmk 44 8191) rfl rfl (any_of HT_.out (by kernel_rfl)) (fun _ _ _ h => h) (Or.inl ⟨by rfl, ?_⟩) ?_ ?_
               rotate_left
               ·intro w'
                go_simp
                with_reducible rfl
               rotate_left
               ·simp only [Act.put, List.setIfInBounds_toArray, List.set_cons_zero, List.set_cons_succ, i64_w, i32_w]
                rfl
               refine pure_ (i := 13) (N := some 97) (v := ?_) (a' := ?_) (bmk 44 16383) rfl rfl (any_of HT_.out (by kernel_rfl)) (fun _ _ _ h => h) (Or.inl ⟨by rfl, ?_⟩) ?_ ?_
               rotate_left
               ·intro w'
                go_simp
                with_reducible rfl
               rotate_left
               ·simp only [Act.put, List.setIfInBounds_toArray, List.set_cons_zero, List.set_cons_succ, i64_w, i32_w]
                rfl
               refine pure_ (i := 14) (N := some 98) (v := ?_) (a' := ?_) (bmk 44 32767) rfl rfl (any_of HT_.out (by kernel_rfl)) (fun _ _ _ h => h) (Or.inl ⟨by rfl, ?_⟩) ?_ ?_
               rotate_left
               ·intro w'
                go_simp
                with_reducible rfl
               rotate_left
               ·simp only [Act.put, List.setIfInBounds_toArray, List.set_cons_zero, List.set_cons_succ, i64_w, i32_w]
                rfl
               refine pure_ (i := 16) (N := some 100) (v := ?_) (a' := ?_) (bmk 44 98303) rfl rfl (any_of HT_.out (by kernel_rfl)) (fun _ _ _ h => h) (Or.inl ⟨by rfl, ?_⟩) ?_ ?_
               rotate_left
               ·intro w'
                go_simp
                with_reducible rfl
               rotate_left
               ·simp only [Act.put, List.setIfInBounds_toArray, List.set_cons_zero, List.set_cons_succ, i64_w, i32_w]
                rfl
               refine pure_ (i := 20) (N := some 104) (v := ?_) (a' := ?_) (bmk 44 1146879) rfl rfl (any_of HT_.out (by kernel_rfl)) (fun _ _ _ h => h) (Or.inl ⟨by rfl, ?_⟩) ?_ ?_
               rotate_left
               ·intro w'
                go_simp
                with_reducible rfl
               rotate_left
               ·simp only [Act.put, List.setIfInBounds_toArray, List.set_cons_zero, List.set_cons_succ, i64_w, i32_w]
                rfl
               refine pure_ (i := 22) (N := some 106) (v := ?_) (a' := ?_) (bmk 44 5341183) rfl rfl (any_of HT_.out (by kernel_rfl)) (fun _ _ _ h => h) (Or.inl ⟨by rfl, ?_⟩) ?_ ?_
               rotate_left
               ·intro w'
                go_simp
                with_reducible rfl
               rotate_left
               ·simp only [Act.put, List.setIfInBounds_toArray, List.set_cons_zero, List.set_cons_succ, i64_w, i32_w]
                rfl
               refine take_ (i := 15) (N := some 99) (v := ?_) (a' := ?_) (bmk 44 5373951) rfl rfl (take_ofW HT_.out HW_.out (by kernel_rfl)) (fun _ _ _ h => h) (Or.inl ⟨by rfl, ?_⟩) hHeld ?_ ?_
               rotate_left
               ·rintro w' ⟨s0, s1, s2, s3, s4, s5, s6, s7, s8, s9, s10, s11, s12, s13, s14, s15, s16, s17, s18, s19, s20, s21⟩
                go_simp
                with_reducible rfl
               rotate_left
               ·simp only [Act.put, List.setIfInBounds_toArray, List.set_cons_zero, List.set_cons_succ, i64_w, i32_w]
                rfl
               refine pure_ (i := 17) (N := some 101) (v := ?_) (a' := ?_) (bmk 44 5505023) rfl rfl (any_of HT_.out (by kernel_rfl)) (fun _ _ _ h => h) (Or.inl ⟨by rfl, ?_⟩) ?_ ?_
               rotate_left
               ·intro w'
                go_simp
                with_reducible rfl
               rotate_left
               ·simp only [Act.put, List.setIfInBounds_toArray, List.set_cons_zero, List.set_cons_succ, i64_w, i32_w]
                rfl
               refine pure_ (i := 18) (N := some 102) (v := ?_) (a' := ?_) (bmk 44 5767167) rfl rfl (any_of HT_.out (by kernel_rfl)) (fun _ _ _ h => h) (Or.inl ⟨by rfl, ?_⟩) ?_ ?_
               rotate_left
               ·intro w'
                go_simp
                with_reducible rfl
               rotate_left
               ·simp only [Act.put, List.setIfInBounds_toArray, List.set_cons_zero, List.set_cons_succ, i64_w, i32_w]
                rfl
               refine take_ (i := 19) (N := some 103) (v := ?_) (a' := ?_) (bmk 44 6291455) rfl rfl (take_ofW HT_.out HW_.out (by kernel_rfl)) (fun _ _ _ h => h) (Or.inl ⟨by rfl, ?_⟩) hHeld ?_ ?_
               rotate_left
               ·rintro w' ⟨s0, s1, s2, s3, s4, s5, s6, s7, s8, s9, s10, s11, s12, s13, s14, s15, s16, s17, s18, s19, s20, s21⟩
                go_simp
                with_reducible rfl
               rotate_left
               ·simp only [Act.put, List.setIfInBounds_toArray, List.set_cons_zero, List.set_cons_succ, i64_w, i32_w]
                rfl
               refine take_ (i := 21) (N := some 105) (v := ?_) (a' := ?_) (bmk 44 8388607) rfl rfl (take_ofW HT_.out HW_.out (by kernel_rfl)) (fun _ _ _ h => h) (Or.inl ⟨by rfl, ?_⟩) hHeld ?_ ?_
               rotate_left
               ·rintro w' ⟨s0, s1, s2, s3, s4, s5, s6, s7, s8, s9, s10, s11, s12, s13, s14, s15, s16, s17, s18, s19, s20, s21⟩
                go_simp
                with_reducible rfl
               rotate_left
               ·simp only [Act.put, List.setIfInBounds_toArray, List.set_cons_zero, List.set_cons_succ, i64_w, i32_w]
                rfl
               refine pure_ (i := 23) (N := some 107) (v := ?_) (a' := ?_) (bmk 44 16777215) rfl rfl (any_of HT_.out (by kernel_rfl)) (fun _ _ _ h => h) (Or.inl ⟨by rfl, ?_⟩) ?_ ?_
               rotate_left
               ·intro w'
                go_simp
                with_reducible rfl
               rotate_left
               ·simp only [Act.put, List.setIfInBounds_toArray, List.set_cons_zero, List.set_cons_succ, i64_w, i32_w]
                rfl
               refine pure_ (i := 24) (N := some 108) (v := ?_) (a' := ?_) (bmk 44 33554431) rfl rfl (any_of HT_.out (by kernel_rfl)) (fun _ _ _ h => h) (Or.inl ⟨by rfl, ?_⟩) ?_ ?_
               rotate_left
               ·intro w'
                go_simp
                with_reducible rfl
               rotate_left
               ·simp only [Act.put, List.setIfInBounds_toArray, List.set_cons_zero, List.set_cons_succ, i64_w, i32_w]
                rfl
               refine take_ (i := 25) (N := some 109) (v := ?_) (a' := ?_) (bmk 44 67108863) rfl rfl (take_ofW HT_.out HW_.out (by kernel_rfl)) (fun _ _ _ h => h) (Or.inl ⟨by rfl, ?_⟩) hHeld ?_ ?_
               rotate_left
               ·rintro w' ⟨s0, s1, s2, s3, s4, s5, s6, s7, s8, s9, s10, s11, s12, s13, s14, s15, s16, s17, s18, s19, s20, s21⟩
                go_simp
                with_reducible rfl
               rotate_left
               ·simp only [Act.put, List.setIfInBounds_toArray, List.set_cons_zero, List.set_cons_succ, i64_w, i32_w]
                rfl
               refine pure_ (i := 26) (N := some 110) (v := ?_) (a' := ?_) (bmk 44 134217727) rfl rfl (any_of HT_.out (by kernel_rfl)) (fun _ _ _ h => h) (Or.inl ⟨by rfl, ?_⟩) ?_ ?_
               rotate_left
               ·intro w'
                go_simp
                with_reducible rfl
               rotate_left
               ·simp only [Act.put, List.setIfInBounds_toArray, List.set_cons_zero, List.set_cons_succ, i64_w, i32_w]
                rfl
               refine pure_ (i := 27) (N := some 111) (v := ?_) (a' := ?_) (bmk 44 268435455) rfl rfl (any_of HT_.out (by kernel_rfl)) (fun _ _ _ h => h) (Or.inl ⟨by rfl, ?_⟩) ?_ ?_
               rotate_left
               ·intro w'
                go_simp
                with_reducible rfl
               rotate_left
               ·simp only [Act.put, List.setIfInBounds_toArray, List.set_cons_zero, List.set_cons_succ, i64_w, i32_w]
                rfl
               refine pure_ (i := 28) (N := some 112) (v := ?_) (a' := ?_) (bmk 44 536870911) rfl rfl (any_of HT_.out (by kernel_rfl)) (fun _ _ _ h => h) (Or.inl ⟨by rfl, ?_⟩) ?_ ?_
               rotate_left
               ·intro w'
                go_simp
                with_reducible rfl
               rotate_left
               ·simp only [Act.put, List.setIfInBounds_toArray, List.set_cons_zero, List.set_cons_succ, i64_w, i32_w]
                rfl
               refine pure_ (i := 29) (N := some 113) (v := ?_) (a' := ?_) (bmk 44 1073741823) rfl rfl (any_of HT_.out (by kernel_rfl)) (fun _ _ _ h => h) (Or.inl ⟨by rfl, ?_⟩) ?_ ?_
               rotate_left
               ·intro w'
                go_simp
                with_reducible rfl
               rotate_left
               ·simp only [Act.put, List.setIfInBounds_toArray, List.set_cons_zero, List.set_cons_succ, i64_w, i32_w]
                rfl
               refine pure_ (i := 31) (N := some 115) (v := ?_) (a' := ?_) (bmk 44 3221225471) rfl rfl (any_of HT_.out (by kernel_rfl)) (fun _ _ _ h => h) (Or.inl ⟨by rfl, ?_⟩) ?_ ?_
               rotate_left
               ·intro w'
                go_simp
                with_reducible rfl
               rotate_left
               ·simp only [Act.put, List.setIfInBounds_toArray, List.set_cons_zero, List.set_cons_succ, i64_w, i32_w]
                rfl
               refine pure_ (i := 35) (N := some 119) (v := ?_) (a' := ?_) (bmk 44 37580963839) rfl rfl (any_of HT_.out (by kernel_rfl)) (fun _ _ _ h => h) (Or.inl ⟨by rfl, ?_⟩) ?_ ?_
               rotate_left
               ·intro w'
                go_simp
                with_reducible rfl
               rotate_left
               ·simp only [Act.put, List.setIfInBounds_toArray, List.set_cons_zero, List.set_cons_succ, i64_w, i32_w]
                rfl
               refine pure_ (i := 37) (N := some 121) (v := ?_) (a' := ?_) (bmk 44 175019917311) rfl rfl (any_of HT_.out (by kernel_rfl)) (fun _ _ _ h => h) (Or.inl ⟨by rfl, ?_⟩) ?_ ?_
               rotate_left
               ·intro w'
                go_simp
                with_reducible rfl
               rotate_left
               ·simp only [Act.put, List.setIfInBounds_toArray, List.set_cons_zero, List.set_cons_succ, i64_w, i32_w]
                rfl
               refine take_ (i := 30) (N := some 114) (v := ?_) (a' := ?_) (bmk 44 176093659135) rfl rfl (take_ofW HT_.out HW_.out (by kernel_rfl)) (fun _ _ _ h => h) (Or.inl ⟨by rfl, ?_⟩) hHeld ?_ ?_
               rotate_left
               ·rintro w' ⟨s0, s1, s2, s3, s4, s5, s6, s7, s8, s9, s10, s11, s12, s13, s14, s15, s16, s17, s18, s19, s20, s21⟩
                go_simp
                with_reducible rfl
               rotate_left
               ·simp only [Act.put, List.setIfInBounds_toArray, List.set_cons_zero, List.set_cons_succ, i64_w, i32_w]
                rfl
               refine pure_ (i := 32) (N := some 116) (v := ?_) (a' := ?_) (bmk 44 180388626431) rfl rfl (any_of HT_.out (by kernel_rfl)) (fun _ _ _ h => h) (Or.inl ⟨by rfl, ?_⟩) ?_ ?_
               rotate_left
               ·intro w'
                go_simp
                with_reducible rfl
               rotate_left
               ·simp only [Act.put, List.setIfInBounds_toArray, List.set_cons_zero, List.set_cons_succ, i64_w, i32_w]
                rfl
               refine pure_ (i := 33) (N := some 117) (v := ?_) (a' := ?_) (bmk 44 188978561023) rfl rfl (any_of HT_.out (by kernel_rfl)) (fun _ _ _ h => h) (Or.inl ⟨by rfl, ?_⟩) ?_ ?_
               rotate_left
               ·intro w'
                go_simp
                with_reducible rfl
               rotate_left
               ·simp only [Act.put, List.setIfInBounds_toArray, List.set_cons_zero, List.set_cons_succ, i64_w, i32_w]
                rfl
               refine take_ (i := 34) (N := some 118) (v := ?_) (a' := ?_) (bmk 44 206158430207) rfl rfl (take_ofW HT_.out HW_.out (by kernel_rfl)) (fun _ _ _ h => h) (Or.inl ⟨by rfl, ?_⟩) hHeld ?_ ?_
               rotate_left
               ·rintro w' ⟨s0, s1, s2, s3, s4, s5, s6, s7, s8, s9, s10, s11, s12, s13, s14, s15, s16, s17, s18, s19, s20, s21⟩
                go_simp
                with_reducible rfl
               rotate_left
               ·simp only [Act.put, List.setIfInBounds_toArray, List.set_cons_zero, List.set_cons_succ, i64_w, i32_w]
                rfl
               refine take_ (i := 36) (N := some 120) (v := ?_) (a' := ?_) (bmk 44 274877906943) rfl rfl (take_ofW HT_.out HW_.out (by kernel_rfl)) (fun _ _ _ h => h) (Or.inl ⟨by rfl, ?_⟩) hHeld ?_ ?_
               rotate_left
               ·rintro w' ⟨s0, s1, s2, s3, s4, s5, s6, s7, s8, s9, s10, s11, s12, s13, s14, s15, s16, s17, s18, s19, s20, s21⟩
                go_simp
                with_reducible rfl
               rotate_left
               ·simp only [Act.put, List.setIfInBounds_toArray, List.set_cons_zero, List.set_cons_succ, i64_w, i32_w]
                rfl
               refine pure_ (i := 38) (N := some 122) (v := ?_) (a' := ?_) (bmk 44 549755813887) rfl rfl (any_of HT_.out (by kernel_rfl)) (fun _ _ _ h => h) (Or.inl ⟨by rfl, ?_⟩) ?_ ?_
               rotate_left
               ·intro w'
                go_simp
                with_reducible rfl
               rotate_left
               ·simp only [Act.put, List.setIfInBounds_toArray, List.set_cons_zero, List.set_cons_succ, i64_w, i32_w]
                rfl
               refine pure_ (i := 39) (N := some 123) (v := ?_) (a' := ?_) (bmk 44 1099511627775) rfl rfl (any_of HT_.out (by kernel_rfl)) (fun _ _ _ h => h) (Or.inl ⟨by rfl, ?_⟩) ?_ ?_
               rotate_left
               ·intro w'
                go_simp
                with_reducible rfl
               rotate_left
               ·simp only [Act.put, List.setIfInBounds_toArray, List.set_cons_zero, List.set_cons_succ, i64_w, i32_w]
                rfl
               refine take_ (i := 40) (N := some 124) (v := ?_) (a' := ?_) (bmk 44 2199023255551) rfl rfl (take_ofW HT_.out HW_.out (by kernel_rfl)) (fun _ _ _ h => h) (Or.inl ⟨by rfl, ?_⟩) hHeld ?_ ?_
               rotate_left
               ·rintro w' ⟨s0, s1, s2, s3, s4, s5, s6, s7, s8, s9, s10, s11, s12, s13, s14, s15, s16, s17, s18, s19, s20, s21⟩
                go_simp
                with_reducible rfl
               rotate_left
               ·simp only [Act.put, List.setIfInBounds_toArray, List.set_cons_zero, List.set_cons_succ, i64_w, i32_w]
                rfl
               refine one_ (i := 41) (N := some 125) #[true, true, true, true, true, true, true, true, true, true, true, true, true, true, true, true, true, true, true, true, true, true, true, true, true, true, true, true, true, true, true, true, true, true, true, true, true, true, true, true, true, true, false, false] rfl rfl (one_of HT_.out (by kernel_rfl)) (by decide) (fun K hK => ?_)
               refine goes_ Try.func101 (by kernel_rfl) rfl #[.slice A144_1 ((rd_T148 l0_1 x8_3).f1).length c144_1, .slice A145_1 ((rd_T148 l1_1 x8_3).f1).length c145_1] (by rfl) rfl rfl (by (try simp only [List.map_toArray, List.map_cons, List.map_nil]); first | done | rfl | (simp only [List.length_drop, List.length_take]; rfl)) ?_
               with_reducible refine (spec_l11SameTexts.calls k3 _ _ ((rd_T148 l0_1 x8_3).f1) _ _ ((rd_T148 l1_1 x8_3).f1) true _ ?side1 ?side2 ?side3 ?side4 A116.out).mono ?_
               (case side1 => exact kb)
               (case side2 => exact HC148_1.out)
               (case side3 => exact kb)
               (case side4 => exact HC149_1.out)
               rintro e w' ⟨rfl, ⟨nd, rfl⟩⟩
               refine ⟨_, rfl, ?_⟩
               refine hK.out _ _ ⟨(blk_cell BK136.out 0).trans rfl, (blk_cell BK136.out 1).trans rfl, (blk_cell BK137.out 0).trans rfl, (blk_cell BK137.out 1).trans rfl, ((HB.out.cell (World.block_lt_of_cell? w _ hw144_0)).trans hw144_0), ((HB.out.cell (World.block_lt_of_cell? w _ hw144_1)).trans hw144_1), ((HB.out.cell (World.block_lt_of_cell? w _ hw144_2)).trans hw144_2), ((HB.out.cell (World.block_lt_of_cell? w _ hw145_0)).trans hw145_0), ((HB.out.cell (World.block_lt_of_cell? w _ hw145_1)).trans hw145_1), ((HB.out.cell (World.block_lt_of_cell? w _ hw145_2)).trans hw145_2), ((HB.out.cell (World.block_lt_of_cell? w _ hw146_0)).trans hw146_0), ((HB.out.cell (World.block_lt_of_cell? w _ hw146_1)).trans hw146_1), ((HB.out.cell (World.block_lt_of_cell? w _ hw146_2)).trans hw146_2), ((HB.out.cell (World.block_lt_of_cell? w _ hw147_0)).trans hw147_0), ((HB.out.cell (World.block_lt_of_cell? w _ hw147_1)).trans hw147_1), ((HB.out.cell (World.block_lt_of_cell? w _ hw147_2)).trans hw147_2), ((HB.out.cell (World.block_lt_of_cell? w _ hw148_0)).trans hw148_0), ((HB.out.cell (World.block_lt_of_cell? w _ hw148_1)).trans hw148_1), ((HB.out.cell (World.block_lt_of_cell? w _ hw148_2)).trans hw148_2), ((HB.out.cell (World.block_lt_of_cell? w _ hw149_0)).trans hw149_0), ((HB.out.cell (World.block_lt_of_cell? w _ hw149_1)).trans hw149_1), ((HB.out.cell (World.block_lt_of_cell? w _ hw149_2)).trans hw149_2)⟩ (fun hHeld => ?_)
               clear hK K
               refine norm_ (a' := ?_) ?_ ?_
               rotate_left
               ·show Act.put _ (some 125) _ = _
                simp only [Act.put, List.setIfInBounds_toArray, List.set_cons_zero, List.set_cons_succ, i64_w, i32_w]
                rfl
               refine pure_ (i := 42) (N := some 126) (v := ?_) (a' := ?_) (bmk 44 8796093022207) rfl rfl (any_of HT_.out (by kernel_rfl)) (fun _ _ _ h => h) (Or.inl ⟨by rfl, ?_⟩) ?_ ?_
               rotate_left
               ·intro w'
                go_simp
                with_reducible rfl
               rotate_left
               ·simp only [Act.put, List.setIfInBounds_toArray, List.set_cons_zero, List.set_cons_succ, i64_w, i32_w]
                rfl
               refine pure_ (i := 43) (N := some 127) (v := ?_) (a' := ?_) (bmk 44 17592186044415) rfl rfl (any_of HT_.out (by kernel_rfl)) (fun _ _ _ h => h) (Or.inl ⟨by rfl, ?_⟩) ?_ ?_
               rotate_left
               ·intro w'
                go_simp
                with_reducible rfl
               rotate_left
               ·simp only [Act.put, List.setIfInBounds_toArray, List.set_cons_zero, List.set_cons_succ, i64_w, i32_w]
                rfl
               refine done_ (done_of HT_.out (by kernel_rfl)) ?_
               try go_wp2
               go_roundg k3
               case measure => have := HJ2.out; have := HK2.out; have := HK3.out; omega
               case rel => exact ⟨(wrap64 (x8_3 + 1)), (by first | rfl | (simp; done) | (simp [*]; done) | (simp [isE0, isE1]; done)), H', ⟨by have := HJ2.out; have := HK2.out; have := HK3.out; omega⟩, ⟨by (with_reducible repeat (first | refine blk_drewN ?_ _ | refine blk_drew ?_ | refine blk_alloc ?_ _)); exact BK136.out⟩, ⟨by (with_reducible repeat (first | refine blk_drewN ?_ _ | refine blk_drew ?_ | refine blk_alloc ?_ _)); exact BK137.out⟩, ⟨by repeat (first | (with_reducible first | exact HB.out | apply below_alloc | apply pw_below_drewN | apply below_drew1 | refine below_set ?_ GE136.out | refine below_set ?_ GE137.out) | exact HB.out)⟩⟩
              ·replace c117 := Bool.eq_false_iff.mpr c117
               subst c117
               have H1 : (some false) = some r := by rw [if_neg (show ¬ (false = true) by decide)] at H; exact H
               clear H
               have H := H1
               clear H1
               obtain rfl := Option.some.inj H
               have hnb121 := NB136_137.out
               have hnc121 := NB137_136.out
               obtain ⟨hcz122_0, hcz122_1, hfz122_0, hfz122_1⟩ := bc2 BK136.out
               try go_wp2
               have n0_ := Aside0.mk (blk_drew BK136.out)
               have n1_ := Aside0.mk (blk_drew BK137.out)
               have n2_ := Aside0.mk (below_drew1 HB.out)
               clear BK136
               clear BK137
               clear HB
               have BK136 := n0_
               have BK137 := n1_
               have HB := n2_
               clear n0_ n1_ n2_
               have p144 : 0 ≤ (x8_3 : Int) := oa
               have q144 : x8_3 < (l0_1.length : Int) := oa
               obtain ⟨ad144, A144_1, c144_1, e144, hx144_0, hx144_1, hx144_2, hl144_1, hi144_1⟩ := at_T148 HR0_1.out x8_3 p144 q144
               have hw144_2 := hx144_2
               have hw144_1 := hx144_1
               have hw144_0 := hx144_0
               cases e144
               replace hx144_0 := hbc HB.out hx144_0
               replace hx144_1 := hbc HB.out hx144_1
               replace hx144_2 := hbc HB.out hx144_2
               have HR144_1 := Aside0.mk hi144_1
               have HC144_1 := Aside0.mk hl144_1
               clear hi144_1 hl144_1
               replace p144 := eq_true p144
               replace q144 := eq_true q144
               have p145 : 0 ≤ (x8_3 : Int) := oa
               have q145 : x8_3 < (l1_1.length : Int) := oa
               obtain ⟨ad145, A145_1, c145_1, e145, hx145_0, hx145_1, hx145_2, hl145_1, hi145_1⟩ := at_T148 HR1_1.out x8_3 p145 q145
               have hw145_2 := hx145_2
               have hw145_1 := hx145_1
               have hw145_0 := hx145_0
               cases e145
               replace hx145_0 := hbc HB.out hx145_0
               replace hx145_1 := hbc HB.out hx145_1
               replace hx145_2 := hbc HB.out hx145_2
               have HR145_1 := Aside0.mk hi145_1
               have HC145_1 := Aside0.mk hl145_1
               clear hi145_1 hl145_1
               replace p145 := eq_true p145
               replace q145 := eq_true q145
               have p146 : 0 ≤ (x8_3 : Int) := oa
               have q146 : x8_3 < (l0_1.length : Int) := oa
               obtain ⟨ad146, A146_1, c146_1, e146, hx146_0, hx146_1, hx146_2, hl146_1, hi146_1⟩ := at_T148 HR0_1.out x8_3 p146 q146
               have hw146_2 := hx146_2
               have hw146_1 := hx146_1
               have hw146_0 := hx146_0
               obtain rfl : ad144 = ad146 := (by injection e146)
               replace hx146_0 := hbc HB.out hx146_0
               replace hx146_1 := hbc HB.out hx146_1
               replace hx146_2 := hbc HB.out hx146_2
               have HR146_1 := Aside0.mk hi146_1
               have HC146_1 := Aside0.mk hl146_1
               clear hi146_1 hl146_1
               replace p146 := eq_true p146
               replace q146 := eq_true q146
               have ea_ := Option.some.inj (hx144_1.symm.trans hx146_1)
               injection ea_ with ea_ en_ ec_
               subst ea_
               subst ec_
               clear en_
               have p147 : 0 ≤ (x8_3 : Int) := oa
               have q147 : x8_3 < (l1_1.length : Int) := oa
               obtain ⟨ad147, A147_1, c147_1, e147, hx147_0, hx147_1, hx147_2, hl147_1, hi147_1⟩ := at_T148 HR1_1.out x8_3 p147 q147
               have hw147_2 := hx147_2
               have hw147_1 := hx147_1
               have hw147_0 := hx147_0
               obtain rfl : ad145 = ad147 := (by injection e147)
               replace hx147_0 := hbc HB.out hx147_0
               replace hx147_1 := hbc HB.out hx147_1
               replace hx147_2 := hbc HB.out hx147_2
               have HR147_1 := Aside0.mk hi147_1
               have HC147_1 := Aside0.mk hl147_1
               clear hi147_1 hl147_1
               replace p147 := eq_true p147
               replace q147 := eq_true q147
               have ea_ := Option.some.inj (hx145_1.symm.trans hx147_1)
               injection ea_ with ea_ en_ ec_
               subst ea_
               subst ec_
               clear en_
               have p148 : 0 ≤ (x8_3 : Int) := oa
               have q148 : x8_3 < (l0_1.length : Int) := oa
               obtain ⟨ad148, A148_1, c148_1, e148, hx148_0, hx148_1, hx148_2, hl148_1, hi148_1⟩ := at_T148 HR0_1.out x8_3 p148 q148
               have hw148_2 := hx148_2
               have hw148_1 := hx148_1
               have hw148_0 := hx148_0
               obtain rfl : ad144 = ad148 := (by injection e148)
               replace hx148_0 := hbc HB.out hx148_0
               replace hx148_1 := hbc HB.out hx148_1
               replace hx148_2 := hbc HB.out hx148_2
               have HR148_1 := Aside0.mk hi148_1
               have HC148_1 := Aside0.mk hl148_1
               clear hi148_1 hl148_1
               replace p148 := eq_true p148
               replace q148 := eq_true q148
               have ea_ := Option.some.inj (hx144_1.symm.trans hx148_1)
               injection ea_ with ea_ en_ ec_
               subst ea_
               subst ec_
               clear en_
               have p149 : 0 ≤ (x8_3 : Int) := oa
               have q149 : x8_3 < (l1_1.length : Int) := oa
               obtain ⟨ad149, A149_1, c149_1, e149, hx149_0, hx149_1, hx149_2, hl149_1, hi149_1⟩ := at_T148 HR1_1.out x8_3 p149 q149
               have hw149_2 := hx149_2
               have hw149_1 := hx149_1
               have hw149_0 := hx149_0
               obtain rfl : ad145 = ad149 := (by injection e149)
               replace hx149_0 := hbc HB.out hx149_0
               replace hx149_1 := hbc HB.out hx149_1
               replace hx149_2 := hbc HB.out hx149_2
               have HR149_1 := Aside0.mk hi149_1
               have HC149_1 := Aside0.mk hl149_1
               clear hi149_1 hl149_1
               replace p149 := eq_true p149
               replace q149 := eq_true q149
               have ea_ := Option.some.inj (hx145_1.symm.trans hx149_1)
               injection ea_ with ea_ en_ ec_
               subst ea_
               subst ec_
               clear en_
               refine start_ (n := 44) (S := fun w' => w'.cell? ⟨gb136, 0, none⟩ = some (.slice A0_0 l0_0.length c0_0) ∧ w'.cell? ⟨gb136, 1, none⟩ = some (.slice (some ad144) l0_1.length c0_1) ∧ w'.cell? ⟨gb137, 0, none⟩ = some (.slice A1_0 l1_0.length c1_0) ∧ w'.cell? ⟨gb137, 1, none⟩ = some (.slice (some ad145) l1_1.length c1_1) ∧ w'.cell? (ad144.add ((x8_3).toNat * 3)) = some (.string ((rd_T148 l0_1 x8_3).f0)) ∧ w'.cell? ⟨(ad144.add ((x8_3).toNat * 3)).block, (ad144.add ((x8_3).toNat * 3)).off + 1, none⟩ = some (.slice A144_1 ((rd_T148 l0_1 x8_3).f1).length c144_1) ∧ w'.cell? ⟨(ad144.add ((x8_3).toNat * 3)).block, (ad144.add ((x8_3).toNat * 3)).off + 2, none⟩ = some (.int .i64 ((rd_T148 l0_1 x8_3).f2)) ∧ w'.cell? (ad145.add ((x8_3).toNat * 3)) = some (.string ((rd_T148 l1_1 x8_3).f0)) ∧ w'.cell? ⟨(ad145.add ((x8_3).toNat * 3)).block, (ad145.add ((x8_3).toNat * 3)).off + 1, none⟩ = some (.slice A145_1 ((rd_T148 l1_1 x8_3).f1).length c145_1) ∧ w'.cell? ⟨(ad145.add ((x8_3).toNat * 3)).block, (ad145.add ((x8_3).toNat * 3)).off + 2, none⟩ = some (.int .i64 ((rd_T148 l1_1 x8_3).f2)) ∧ w'.cell? (ad144.add ((x8_3).toNat * 3)) = some (.string ((rd_T148 l0_1 x8_3).f0)) ∧ w'.cell? ⟨(ad144.add ((x8_3).toNat * 3)).block, (ad144.add ((x8_3).toNat * 3)).off + 1, none⟩ = some (.slice A144_1 ((rd_T148 l0_1 x8_3).f1).length c144_1) ∧ w'.cell? ⟨(ad144.add ((x8_3).toNat * 3)).block, (ad144.add ((x8_3).toNat * 3)).off + 2, none⟩ = some (.int .i64 ((rd_T148 l0_1 x8_3).f2)) ∧ w'.cell? (ad145.add ((x8_3).toNat * 3)) = some (.string ((rd_T148 l1_1 x8_3).f0)) ∧ w'.cell? ⟨(ad145.add ((x8_3).toNat * 3)).block, (ad145.add ((x8_3).toNat * 3)).off + 1, none⟩ = some (.slice A145_1 ((rd_T148 l1_1 x8_3).f1).length c145_1) ∧ w'.cell? ⟨(ad145.add ((x8_3).toNat * 3)).block, (ad145.add ((x8_3).toNat * 3)).off + 2, none⟩ = some (.int .i64 ((rd_T148 l1_1 x8_3).f2)) ∧ w'.cell? (ad144.add ((x8_3).toNat * 3)) = some (.string ((rd_T148 l0_1 x8_3).f0)) ∧ w'.cell? ⟨(ad144.add ((x8_3).toNat * 3)).block, (ad144.add ((x8_3).toNat * 3)).off + 1, none⟩ = some (.slice A144_1 ((rd_T148 l0_1 x8_3).f1).length c144_1) ∧ w'.cell? ⟨(ad144.add ((x8_3).toNat * 3)).block, (ad144.add ((x8_3).toNat * 3)).off + 2, none⟩ = some (.int .i64 ((rd_T148 l0_1 x8_3).f2)) ∧ w'.cell? (ad145.add ((x8_3).toNat * 3)) = some (.string ((rd_T148 l1_1 x8_3).f0)) ∧ w'.cell? ⟨(ad145.add ((x8_3).toNat * 3)).block, (ad145.add ((x8_3).toNat * 3)).off + 1, none⟩ = some (.slice A145_1 ((rd_T148 l1_1 x8_3).f1).length c145_1) ∧ w'.cell? ⟨(ad145.add ((x8_3).toNat * 3)).block, (ad145.add ((x8_3).toNat * 3)).off + 2, none⟩ = some (.int .i64 ((rd_T148 l1_1 x8_3).f2))) (ds := []) #[false, false, false, false, false, false, false, false, false, false, false, false, false, false, false, false, false, false, false, false, false, false, false, false, false, false, false, false, false, false, false, false, false, false, false, false, false, false, false, false, false, false, false, false] (by kernel_rfl) rfl rfl ⟨(blk_cell BK136.out 0).trans rfl, (blk_cell BK136.out 1).trans rfl, (blk_cell BK137.out 0).trans rfl, (blk_cell BK137.out 1).trans rfl, ((HB.out.cell (World.block_lt_of_cell? w _ hw144_0)).trans hw144_0), ((HB.out.cell (World.block_lt_of_cell? w _ hw144_1)).trans hw144_1), ((HB.out.cell (World.block_lt_of_cell? w _ hw144_2)).trans hw144_2), ((HB.out.cell (World.block_lt_of_cell? w _ hw145_0)).trans hw145_0), ((HB.out.cell (World.block_lt_of_cell? w _ hw145_1)).trans hw145_1), ((HB.out.cell (World.block_lt_of_cell? w _ hw145_2)).trans hw145_2), ((HB.out.cell (World.block_lt_of_cell? w _ hw146_0)).trans hw146_0), ((HB.out.cell (World.block_lt_of_cell? w _ hw146_1)).trans hw146_1), ((HB.out.cell (World.block_lt_of_cell? w _ hw146_2)).trans hw146_2), ((HB.out.cell (World.block_lt_of_cell? w _ hw147_0)).trans hw147_0), ((HB.out.cell (World.block_lt_of_cell? w _ hw147_1)).trans hw147_1), ((HB.out.cell (World.block_lt_of_cell? w _ hw147_2)).trans hw147_2), ((HB.out.cell (World.block_lt_of_cell? w _ hw148_0)).trans hw148_0), ((HB.out.cell (World.block_lt_of_cell? w _ hw148_1)).trans hw148_1), ((HB.out.cell (World.block_lt_of_cell? w _ hw148_2)).trans hw148_2), ((HB.out.cell (World.block_lt_of_cell? w _ hw149_0)).trans hw149_0), ((HB.out.cell (World.block_lt_of_cell? w _ hw149_1)).trans hw149_1), ((HB.out.cell (World.block_lt_of_cell? w _ hw149_2)).trans hw149_2)⟩ (fun hHeld => ?_); refine with_tabW spec_SameSurface.tab13 spec_SameSurface.bits13 (fun HT_ HW_ => ?_)
               generalize wr.drew = w123 at BK136 BK137 HB HR144_1 HR145_1 HR146_1 HR147_1 HR148_1 HR149_1 hx144_0 hx144_1 hx144_2 hx145_0 hx145_1 hx145_2 hx146_0 hx146_1 hx146_2 hx147_0 hx147_1 hx147_2 hx148_0 hx148_1 hx148_2 hx149_0 hx149_1 hx149_2 hHeld ⊢
               refine pure_ (i := 0) (N := some 84) (v := ?_) (a' := ?_) (bmk 44 1) rfl rfl (any_of HT_.out (by kernel_rfl)) (fun _ _ _ h => h) (Or.inl ⟨by rfl, ?_⟩) ?_ ?_
               rotate_left
               ·intro w'
                go_simp
                with_reducible rfl
               rotate_left
               ·simp only [Act.put, List.setIfInBounds_toArray, List.set_cons_zero, List.set_cons_succ, i64_w, i32_w]
                rfl
               refine pure_ (i := 2) (N := some 86) (v := ?_) (a' := ?_) (bmk 44 5) rfl rfl (any_of HT_.out (by kernel_rfl)) (fun _ _ _ h => h) (Or.inl ⟨by rfl, ?_⟩) ?_ ?_
               rotate_left
               ·intro w'
                go_simp
                with_reducible rfl
               rotate_left
               ·simp only [Act.put, List.setIfInBounds_toArray, List.set_cons_zero, List.set_cons_succ, i64_w, i32_w]
                rfl
               refine pure_ (i := 6) (N := some 90) (v := ?_) (a' := ?_) (bmk 44 69) rfl rfl (any_of HT_.out (by kernel_rfl)) (fun _ _ _ h => h) (Or.inl ⟨by rfl, ?_⟩) ?_ ?_
               rotate_left
               ·intro w'
                go_simp
                with_reducible rfl
               rotate_left
               ·simp only [Act.put, List.setIfInBounds_toArray, List.set_cons_zero, List.set_cons_succ, i64_w, i32_w]
                rfl
               refine pure_ (i := 8) (N := some 92) (v := ?_) (a' := ?_) (bmk 44 325) rfl rfl (any_of HT_.out (by kernel_rfl)) (fun _ _ _ h => h) (Or.inl ⟨by rfl, ?_⟩) ?_ ?_
               rotate_left
               ·intro w'
                go_simp
                with_reducible rfl
               rotate_left
               ·simp only [Act.put, List.setIfInBounds_toArray, List.set_cons_zero, List.set_cons_succ, i64_w, i32_w]
                rfl
               refine take_ (i := 1) (N := some 85) (v := ?_) (a' := ?_) (bmk 44 327) rfl rfl (take_ofW HT_.out HW_.out (by kernel_rfl)) (fun _ _ _ h => h) (Or.inl ⟨by rfl, ?_⟩) hHeld ?_ ?_
               rotate_left
               ·rintro w' ⟨s0, s1, s2, s3, s4, s5, s6, s7, s8, s9, s10, s11, s12, s13, s14, s15, s16, s17, s18, s19, s20, s21⟩
                go_simp
                with_reducible rfl
               rotate_left
               ·simp only [Act.put, List.setIfInBounds_toArray, List.set_cons_zero, List.set_cons_succ, i64_w, i32_w]
                rfl
               refine pure_ (i := 3) (N := some 87) (v := ?_) (a' := ?_) (bmk 44 335) rfl rfl (any_of HT_.out (by kernel_rfl)) (fun _ _ _ h => h) (Or.inl ⟨by rfl, ?_⟩) ?_ ?_
               rotate_left
               ·intro w'
                go_simp
                with_reducible rfl
               rotate_left
               ·simp only [Act.put, List.setIfInBounds_toArray, List.set_cons_zero, List.set_cons_succ, i64_w, i32_w]
                rfl
               refine pure_ (i := 4) (N := some 88) (v := ?_) (a' := ?_) (bmk 44 351) rfl rfl (any_of HT_.out (by kernel_rfl)) (fun _ _ _ h => h) (Or.inl ⟨by rfl, ?_⟩) ?_ ?_
               rotate_left
               ·intro w'
                go_simp
                with_reducible rfl
               rotate_left
               ·simp only [Act.put, List.setIfInBounds_toArray, List.set_cons_zero, List.set_cons_succ, i64_w, i32_w]
                rfl
               refine take_ (i := 5) (N := some 89) (v := ?_) (a' := ?_) (bmk 44 383) rfl rfl (take_ofW HT_.out HW_.out (by kernel_rfl)) (fun _ _ _ h => h) (Or.inl ⟨by rfl, ?_⟩) hHeld ?_ ?_
               rotate_left
               ·rintro w' ⟨s0, s1, s2, s3, s4, s5, s6, s7, s8, s9, s10, s11, s12, s13, s14, s15, s16, s17, s18, s19, s20, s21⟩
                go_simp
                with_reducible rfl
               rotate_left
               ·simp only [Act.put, List.setIfInBounds_toArray, List.set_cons_zero, List.set_cons_succ, i64_w, i32_w]
                rfl
               refine take_ (i := 7) (N := some 91) (v := ?_) (a' := ?_) (bmk 44 511) rfl rfl (take_ofW HT_.out HW_.out (by kernel_rfl)) (fun _ _ _ h => h) (Or.inl ⟨by rfl, ?_⟩) hHeld ?_ ?_
               rotate_left
               ·rintro w' ⟨s0, s1, s2, s3, s4, s5, s6, s7, s8, s9, s10, s11, s12, s13, s14, s15, s16, s17, s18, s19, s20, s21⟩
                go_simp
                with_reducible rfl
               rotate_left
               ·simp only [Act.put, List.setIfInBounds_toArray, List.set_cons_zero, List.set_cons_succ, i64_w, i32_w]
                rfl
               refine pure_ (i := 9) (N := some 93) (v := ?_) (a' := ?_) (bmk 44 1023) rfl rfl (any_of HT_.out (by kernel_rfl)) (fun _ _ _ h => h) (Or.inl ⟨by rfl, ?_⟩) ?_ ?_
               rotate_left
               ·intro w'
                go_simp
                with_reducible rfl
               rotate_left
               ·simp only [Act.put, List.setIfInBounds_toArray, List.set_cons_zero, List.set_cons_succ, i64_w, i32_w]
                rfl
               refine pure_ (i := 10) (N := some 94) (v := ?_) (a' := ?_) (bmk 44 2047) rfl rfl (any_of HT_.out (by kernel_rfl)) (fun _ _ _ h => h) (Or.inl ⟨by rfl, ?_⟩) ?_ ?_
               rotate_left
               ·intro w'
                go_simp
                with_reducible rfl
               rotate_left
               ·simp only [Act.put, List.setIfInBounds_toArray, List.set_cons_zero, List.set_cons_succ, i64_w, i32_w]
                rfl
               refine take_ (i := 11) (N := some 95) (v := ?_) (a' := ?_) (bmk 44 4095) rfl rfl (take_ofW HT_.out HW_.out (by kernel_rfl)) (fun _ _ _ h => h) (Or.inl ⟨by rfl, ?_⟩) hHeld ?_ ?_
               rotate_left
               ·rintro w' ⟨s0, s1, s2, s3, s4, s5, s6, s7, s8, s9, s10, s11, s12, s13, s14, s15, s16, s17, s18, s19, s20, s21⟩
                go_simp
                with_reducible rfl
               rotate_left
               ·simp only [Act.put, List.setIfInBounds_toArray, List.set_cons_zero, List.set_cons_succ, i64_w, i32_w]
                rfl
               refine pure_ (i := 12) (N := some 96) (v := ?_) (a' := ?_) (bmk 44 8191) rfl rfl (any_of HT_.out (by kernel_rfl)) (fun _ _ _ h => h) (Or.inl ⟨by rfl, ?_⟩) ?_ ?_
               rotate_left
               ·intro w'
                go_simp
                with_reducible rfl
               rotate_left
               ·simp only [Act.put, List.setIfInBounds_toArray, List.set_cons_zero, List.set_cons_succ, i64_w, i32_w]
                rfl
               refine pure_ (i := 13) (N := some 97) (v := ?_) (a' := ?_) (bmk 44 16383) rfl rfl (any_of HT_.out (by kernel_rfl)) (fun _ _ _ h => h) (Or.inl ⟨by rfl, ?_⟩) ?_ ?_
               rotate_left
               ·intro w'
                go_simp
                with_reducible rfl
               rotate_left
               ·simp only [Act.put, List.setIfInBounds_toArray, List.set_cons_zero, List.set_cons_succ, i64_w, i32_w]
                rfl
               refine pure_ (i := 14) (N := some 98) (v := ?_) (a' := ?_) (bmk 44 32767) rfl rfl (any_of HT_.out (by kernel_rfl)) (fun _ _ _ h => h) (Or.inl ⟨by rfl, ?_⟩) ?_ ?_
               rotate_left
               ·intro w'
                go_simp
                with_reducible rfl
               rotate_left
               ·simp only [Act.put, List.setIfInBounds_toArray, List.set_cons_zero, List.set_cons_succ, i64_w, i32_w]
                rfl
               refine pure_ (i := 16) (N := some 100) (v := ?_) (a' := ?_) (bmk 44 98303) rfl rfl (any_of HT_.out (by kernel_rfl)) (fun _ _ _ h => h) (Or.inl ⟨by rfl, ?_⟩) ?_ ?_
               rotate_left
               ·intro w'
                go_simp
                with_reducible rfl
               rotate_left
               ·simp only [Act.put, List.setIfInBounds_toArray, List.set_cons_zero, List.set_cons_succ, i64_w, i32_w]
                rfl
               refine pure_ (i := 20) (N := some 104) (v := ?_) (a' := ?_) (bmk 44 1146879) rfl rfl (any_of HT_.out (by kernel_rfl)) (fun _ _ _ h => h) (Or.inl ⟨by rfl, ?_⟩) ?_ ?_
               rotate_left
               ·intro w'
                go_simp
                with_reducible rfl
               rotate_left
               ·simp only [Act.put, List.setIfInBounds_toArray, List.set_cons_zero, List.set_cons_succ, i64_w, i32_w]
                rfl
               refine pure_ (i := 22) (N := some 106) (v := ?_) (a' := ?_) (bmk 44 5341183) rfl rfl (any_of HT_.out (by kernel_rfl)) (fun _ _ _ h => h) (Or.inl ⟨by rfl, ?_⟩) ?_ ?_
               rotate_left
               ·intro w'
                go_simp
                with_reducible rfl
               rotate_left
               ·simp only [Act.put, List.setIfInBounds_toArray, List.set_cons_zero, List.set_cons_succ, i64_w, i32_w]
                rfl
               refine take_ (i := 15) (N := some 99) (v := ?_) (a' := ?_) (bmk 44 5373951) rfl rfl (take_ofW HT_.out HW_.out (by kernel_rfl)) (fun _ _ _ h => h) (Or.inl ⟨by rfl, ?_⟩) hHeld ?_ ?_
               rotate_left
               ·rintro w' ⟨s0, s1, s2, s3, s4, s5, s6, s7, s8, s9, s10, s11, s12, s13, s14, s15, s16, s17, s18, s19, s20, s21⟩
                go_simp
                with_reducible rfl
               rotate_left
               ·simp only [Act.put, List.setIfInBounds_toArray, List.set_cons_zero, List.set_cons_succ, i64_w, i32_w]
                rfl
               refine pure_ (i := 17) (N := some 101) (v := ?_) (a' := ?_) (bmk 44 5505023) rfl rfl (any_of HT_.out (by kernel_rfl)) (fun _ _ _ h => h) (Or.inl ⟨by rfl, ?_⟩) ?_ ?_
               rotate_left
               ·intro w'
                go_simp
                with_reducible rfl
               rotate_left
               ·simp only [Act.put, List.setIfInBounds_toArray, List.set_cons_zero, List.set_cons_succ, i64_w, i32_w]
                rfl
               refine pure_ (i := 18) (N := some 102) (v := ?_) (a' := ?_) (bmk 44 5767167) rfl rfl (any_of HT_.out (by kernel_rfl)) (fun _ _ _ h => h) (Or.inl ⟨by rfl, ?_⟩) ?_ ?_
               rotate_left
               ·intro w'
                go_simp
                with_reducible rfl
               rotate_left
               ·simp only [Act.put, List.setIfInBounds_toArray, List.set_cons_zero, List.set_cons_succ, i64_w, i32_w]
                rfl
               refine take_ (i := 19) (N := some 103) (v := ?_) (a' := ?_) (bmk 44 6291455) rfl rfl (take_ofW HT_.out HW_.out (by kernel_rfl)) (fun _ _ _ h => h) (Or.inl ⟨by rfl, ?_⟩) hHeld ?_ ?_
               rotate_left
               ·rintro w' ⟨s0, s1, s2, s3, s4, s5, s6, s7, s8, s9, s10, s11, s12, s13, s14, s15, s16, s17, s18, s19, s20, s21⟩
                go_simp
                with_reducible rfl
               rotate_left
               ·simp only [Act.put, List.setIfInBounds_toArray, List.set_cons_zero, List.set_cons_succ, i64_w, i32_w]
                rfl
               refine take_ (i := 21) (N := some 105) (v := ?_) (a' := ?_) (bmk 44 8388607) rfl rfl (take_ofW HT_.out HW_.out (by kernel_rfl)) (fun _ _ _ h => h) (Or.inl ⟨by rfl, ?_⟩) hHeld ?_ ?_
               rotate_left
               ·rintro w' ⟨s0, s1, s2, s3, s4, s5, s6, s7, s8, s9, s10, s11, s12, s13, s14, s15, s16, s17, s18, s19, s20, s21⟩
                go_simp
                with_reducible rfl
               rotate_left
               ·simp only [Act.put, List.setIfInBounds_toArray, List.set_cons_zero, List.set_cons_succ, i64_w, i32_w]
                rfl
               refine pure_ (i := 23) (N := some 107) (v := ?_) (a' := ?_) (bmk 44 16777215) rfl rfl (any_of HT_.out (by kernel_rfl)) (fun _ _ _ h => h) (Or.inl ⟨by rfl, ?_⟩) ?_ ?_
               rotate_left
               ·intro w'
                go_simp
                with_reducible rfl
               rotate_left
               ·simp only [Act.put, List.setIfInBounds_toArray, List.set_cons_zero, List.set_cons_succ, i64_w, i32_w]
                rfl
               refine pure_ (i := 24) (N := some 108) (v := ?_) (a' := ?_) (bmk 44 33554431) rfl rfl (any_of HT_.out (by kernel_rfl)) (fun _ _ _ h => h) (Or.inl ⟨by rfl, ?_⟩) ?_ ?_
               rotate_left
               ·intro w'
                go_simp
                with_reducible rfl
               rotate_left
               ·simp only [Act.put, List.setIfInBounds_toArray, List.set_cons_zero, List.set_cons_succ, i64_w, i32_w]
                rfl
               refine take_ (i := 25) (N := some 109) (v := ?_) (a' := ?_) (bmk 44 67108863) rfl rfl (take_ofW HT_.out HW_.out (by kernel_rfl)) (fun _ _ _ h => h) (Or.inl ⟨by rfl, ?_⟩) hHeld ?_ ?_
               rotate_left
               ·rintro w' ⟨s0, s1, s2, s3, s4, s5, s6, s7, s8, s9, s10, s11, s12, s13, s14, s15, s16, s17, s18, s19, s20, s21⟩
                go_simp
                with_reducible rfl
               rotate_left
               ·simp only [Act.put, List.setIfInBounds_toArray, List.set_cons_zero, List.set_cons_succ, i64_w, i32_w]
                rfl
               refine pure_ (i := 26) (N := some 110) (v := ?_) (a' := ?_) (bmk 44 134217727) rfl rfl (any_of HT_.out (by kernel_rfl)) (fun _ _ _ h => h) (Or.inl ⟨by rfl, ?_⟩) ?_ ?_
               rotate_left
               ·intro w'
                go_simp
                with_reducible rfl
               rotate_left
               ·simp only [Act.put, List.setIfInBounds_toArray, List.set_cons_zero, List.set_cons_succ, i64_w, i32_w]
                rfl
               refine pure_ (i := 27) (N := some 111) (v := ?_) (a' := ?_) (bmk 44 268435455) rfl rfl (any_of HT_.out (by kernel_rfl)) (fun _ _ _ h => h) (Or.inl ⟨by rfl, ?_⟩) ?_ ?_
               rotate_left
               ·intro w'
                go_simp
                with_reducible rfl
               rotate_left
               ·simp only [Act.put, List.setIfInBounds_toArray, List.set_cons_zero, List.set_cons_succ, i64_w, i32_w]
                rfl
               refine pure_ (i := 28) (N := some 112) (v := ?_) (a' := ?_) (bmk 44 536870911) rfl rfl (any_of HT_.out (by kernel_rfl)) (fun _ _ _ h => h) (Or.inl ⟨by rfl, ?_⟩) ?_ ?_
               rotate_left
               ·intro w'
                go_simp
                with_reducible rfl
               rotate_left
               ·simp only [Act.put, List.setIfInBounds_toArray, List.set_cons_zero, List.set_cons_succ, i64_w, i32_w]
                rfl
               refine pure_ (i := 29) (N := some 113) (v := ?_) (a' := ?_) (bmk 44 1073741823) rfl rfl (any_of HT_.out (by kernel_rfl)) (fun _ _ _ h => h) (Or.inl ⟨by rfl, ?_⟩) ?_ ?_
               rotate_left
               ·intro w'
                go_simp
                with_reducible rfl
               rotate_left
               ·simp only [Act.put, List.setIfInBounds_toArray, List.set_cons_zero, List.set_cons_succ, i64_w, i32_w]
                rfl
               refine pure_ (i := 31) (N := some 115) (v := ?_) (a' := ?_) (bmk 44 3221225471) rfl rfl (any_of HT_.out (by kernel_rfl)) (fun _ _ _ h => h) (Or.inl ⟨by rfl, ?_⟩) ?_ ?_
               rotate_left
               ·intro w'
                go_simp
                with_reducible rfl
               rotate_left
               ·simp only [Act.put, List.setIfInBounds_toArray, List.set_cons_zero, List.set_cons_succ, i64_w, i32_w]
                rfl
               refine pure_ (i := 35) (N := some 119) (v := ?_) (a' := ?_) (bmk 44 37580963839) rfl rfl (any_of HT_.out (by kernel_rfl)) (fun _ _ _ h => h) (Or.inl ⟨by rfl, ?_⟩) ?_ ?_
               rotate_left
               ·intro w'
                go_simp
                with_reducible rfl
               rotate_left
               ·simp only [Act.put, List.setIfInBounds_toArray, List.set_cons_zero, List.set_cons_succ, i64_w, i32_w]
                rfl
               refine pure_ (i := 37) (N := some 121) (v := ?_) (a' := ?_) (bmk 44 175019917311) rfl rfl (any_of HT_.out (by kernel_rfl)) (fun _ _ _ h => h) (Or.inl ⟨by rfl, ?_⟩) ?_ ?_
               rotate_left
               ·intro w'
                go_simp
                with_reducible rfl
               rotate_left
               ·simp only [Act.put, List.setIfInBounds_toArray, List.set_cons_zero, List.set_cons_succ, i64_w, i32_w]
                rfl
               refine take_ (i := 30) (N := some 114) (v := ?_) (a' := ?_) (bmk 44 176093659135) rfl rfl (take_ofW HT_.out HW_.out (by kernel_rfl)) (fun _ _ _ h => h) (Or.inl ⟨by rfl, ?_⟩) hHeld ?_ ?_
               rotate_left
               ·rintro w' ⟨s0, s1, s2, s3, s4, s5, s6, s7, s8, s9, s10, s11, s12, s13, s14, s15, s16, s17, s18, s19, s20, s21⟩
                go_simp
                with_reducible rfl
               rotate_left
               ·simp only [Act.put, List.setIfInBounds_toArray, List.set_cons_zero, List.set_cons_succ, i64_w, i32_w]
                rfl
               refine pure_ (i := 32) (N := some 116) (v := ?_) (a' := ?_) (bmk 44 180388626431) rfl rfl (any_of HT_.out (by kernel_rfl)) (fun _ _ _ h => h) (Or.inl ⟨by rfl, ?_⟩) ?_ ?_
               rotate_left
               ·intro w'
                go_simp
                with_reducible rfl
               rotate_left
               ·simp only [Act.put, List.setIfInBounds_toArray, List.set_cons_zero, List.set_cons_succ, i64_w, i32_w]
                rfl
               refine pure_ (i := 33) (N := some 117) (v := ?_) (a' := ?_) (bmk 44 188978561023) rfl rfl (any_of HT_.out (by kernel_rfl)) (fun _ _ _ h => h) (Or.inl ⟨by rfl, ?_⟩) ?_ ?_
               rotate_left
               ·intro w'
                go_simp
                with_reducible rfl
               rotate_left
               ·simp only [Act.put, List.setIfInBounds_toArray, List.set_cons_zero, List.set_cons_succ, i64_w, i32_w]
                rfl
               refine take_ (i := 34) (N := some 118) (v := ?_) (a' := ?_) (bmk 44 206158430207) rfl rfl (take_ofW HT_.out HW_.out (by kernel_rfl)) (fun _ _ _ h => h) (Or.inl ⟨by rfl, ?_⟩) hHeld ?_ ?_
               rotate_left
               ·rintro w' ⟨s0, s1, s2, s3, s4, s5, s6, s7, s8, s9, s10, s11, s12, s13, s14, s15, s16, s17, s18, s19, s20, s21⟩
                go_simp
                with_reducible rfl
               rotate_left
               ·simp only [Act.put, List.setIfInBounds_toArray, List.set_cons_zero, List.set_cons_succ, i64_w, i32_w]
                rfl
               refine take_ (i := 36) (N := some 120) (v := ?_) (a' := ?_) (bmk 44 274877906943) rfl rfl (take_ofW HT_.out HW_.out (by kernel_rfl)) (fun _ _ _ h => h) (Or.inl ⟨by rfl, ?_⟩) hHeld ?_ ?_
               rotate_left
               ·rintro w' ⟨s0, s1, s2, s3, s4, s5, s6, s7, s8, s9, s10, s11, s12, s13, s14, s15, s16, s17, s18, s19, s20, s21⟩
                go_simp
                with_reducible rfl
               rotate_left
               ·simp only [Act.put, List.setIfInBounds_toArray, List.set_cons_zero, List.set_cons_succ, i64_w, i32_w]
                rfl
               refine pure_ (i := 38) (N := some 122) (v := ?_) (a' := ?_) (bmk 44 549755813887) rfl rfl (any_of HT_.out (by kernel_rfl)) (fun _ _ _ h => h) (Or.inl ⟨by rfl, ?_⟩) ?_ ?_
               rotate_left
               ·intro w'
                go_simp
                with_reducible rfl
               rotate_left
               ·simp only [Act.put, List.setIfInBounds_toArray, List.set_cons_zero, List.set_cons_succ, i64_w, i32_w]
                rfl
               refine pure_ (i := 39) (N := some 123) (v := ?_) (a' := ?_) (bmk 44 1099511627775) rfl rfl (any_of HT_.out (by kernel_rfl)) (fun _ _ _ h => h) (Or.inl ⟨by rfl, ?_⟩) ?_ ?_
               rotate_left
               ·intro w'
                go_simp
                with_reducible rfl
               rotate_left
               ·simp only [Act.put, List.setIfInBounds_toArray, List.set_cons_zero, List.set_cons_succ, i64_w, i32_w]
                rfl
               refine take_ (i := 40) (N := some 124) (v := ?_) (a' := ?_) (bmk 44 2199023255551) rfl rfl (take_ofW HT_.out HW_.out (by kernel_rfl)) (fun _ _ _ h => h) (Or.inl ⟨by rfl, ?_⟩) hHeld ?_ ?_
               rotate_left
               ·rintro w' ⟨s0, s1, s2, s3, s4, s5, s6, s7, s8, s9, s10, s11, s12, s13, s14, s15, s16, s17, s18, s19, s20, s21⟩
                go_simp
                with_reducible rfl
               rotate_left
               ·simp only [Act.put, List.setIfInBounds_toArray, List.set_cons_zero, List.set_cons_succ, i64_w, i32_w]
                rfl
               refine one_ (i := 41) (N := some 125) #[true, true, true, true, true, true, true, true, true, true, true, true, true, true, true, true, true, true, true, true, true, true, true, true, true, true, true, true, true, true, true, true, true, true, true, true, true, true, true, true, true, true, false, false] rfl rfl (one_of HT_.out (by kernel_rfl)) (by decide) (fun K hK => ?_)
               refine goes_ Try.func101 (by kernel_rfl) rfl #[.slice A144_1 ((rd_T148 l0_1 x8_3).f1).length c144_1, .slice A145_1 ((rd_T148 l1_1 x8_3).f1).length c145_1] (by rfl) rfl rfl (by (try simp only [List.map_toArray, List.map_cons, List.map_nil]); first | done | rfl | (simp only [List.length_drop, List.length_take]; rfl)) ?_
               with_reducible refine (spec_l11SameTexts.calls k3 _ _ ((rd_T148 l0_1 x8_3).f1) _ _ ((rd_T148 l1_1 x8_3).f1) false _ ?side1 ?side2 ?side3 ?side4 A116.out).mono ?_
               (case side1 => exact kb)
               (case side2 => exact HC148_1.out)
               (case side3 => exact kb)
               (case side4 => exact HC149_1.out)
               rintro e w' ⟨rfl, ⟨nd, rfl⟩⟩
               refine ⟨_, rfl, ?_⟩
               refine hK.out _ _ ⟨(blk_cell BK136.out 0).trans rfl, (blk_cell BK136.out 1).trans rfl, (blk_cell BK137.out 0).trans rfl, (blk_cell BK137.out 1).trans rfl, ((HB.out.cell (World.block_lt_of_cell? w _ hw144_0)).trans hw144_0), ((HB.out.cell (World.block_lt_of_cell? w _ hw144_1)).trans hw144_1), ((HB.out.cell (World.block_lt_of_cell? w _ hw144_2)).trans hw144_2), ((HB.out.cell (World.block_lt_of_cell? w _ hw145_0)).trans hw145_0), ((HB.out.cell (World.block_lt_of_cell? w _ hw145_1)).trans hw145_1), ((HB.out.cell (World.block_lt_of_cell? w _ hw145_2)).trans hw145_2), ((HB.out.cell (World.block_lt_of_cell? w _ hw146_0)).trans hw146_0), ((HB.out.cell (World.block_lt_of_cell? w _ hw146_1)).trans hw146_1), ((HB.out.cell (World.block_lt_of_cell? w _ hw146_2)).trans hw146_2), ((HB.out.cell (World.block_lt_of_cell? w _ hw147_0)).trans hw147_0), ((HB.out.cell (World.block_lt_of_cell? w _ hw147_1)).trans hw147_1), ((HB.out.cell (World.block_lt_of_cell? w _ hw147_2)).trans hw147_2), ((HB.out.cell (World.block_lt_of_cell? w _ hw148_0)).trans hw148_0), ((HB.out.cell (World.block_lt_of_cell? w _ hw148_1)).trans hw148_1), ((HB.out.cell (World.block_lt_of_cell? w _ hw148_2)).trans hw148_2), ((HB.out.cell (World.block_lt_of_cell? w _ hw149_0)).trans hw149_0), ((HB.out.cell (World.block_lt_of_cell? w _ hw149_1)).trans hw149_1), ((HB.out.cell (World.block_lt_of_cell? w _ hw149_2)).trans hw149_2)⟩ (fun hHeld => ?_)
               clear hK K
               refine norm_ (a' := ?_) ?_ ?_
               rotate_left
               ·show Act.put _ (some 125) _ = _
                simp only [Act.put, List.setIfInBounds_toArray, List.set_cons_zero, List.set_cons_succ, i64_w, i32_w]
                rfl
               refine pure_ (i := 42) (N := some 126) (v := ?_) (a' := ?_) (bmk 44 8796093022207) rfl rfl (any_of HT_.out (by kernel_rfl)) (fun _ _ _ h => h) (Or.inl ⟨by rfl, ?_⟩) ?_ ?_
               rotate_left
               ·intro w'
                go_simp
                with_reducible rfl
               rotate_left
               ·simp only [Act.put, List.setIfInBounds_toArray, List.set_cons_zero, List.set_cons_succ, i64_w, i32_w]
                rfl
               refine pure_ (i := 43) (N := some 127) (v := ?_) (a' := ?_) (bmk 44 17592186044415) rfl rfl (any_of HT_.out (by kernel_rfl)) (fun _ _ _ h => h) (Or.inl ⟨by rfl, ?_⟩) ?_ ?_
               rotate_left
               ·intro w'
                go_simp
                with_reducible rfl
               rotate_left
               ·simp only [Act.put, List.setIfInBounds_toArray, List.set_cons_zero, List.set_cons_succ, i64_w, i32_w]
                rfl
               refine done_ (done_of HT_.out (by kernel_rfl)) ?_
               try go_wp2
               go_ret
               exact ⟨by first | rfl | (simp [errW_none, errW_some] <;> rfl) | (simp [*, errW_none, errW_some] <;> rfl), by repeat (first | (with_reducible first | exact HB.out | apply below_alloc | apply pw_below_drewN | apply below_drew1 | refine below_set ?_ GE136.out | refine below_set ?_ GE137.out) | exact HB.out)⟩
             ·rw [if_neg c115] at H
              have c115b0 : (((rd_T148 l0_1 x8_3).f2) == ((rd_T148 l1_1 x8_3).f2)) = false := beq_eq_false_iff_ne.mpr c115
              have c115b1 : (((rd_T148 l0_1 x8_3).f2) != ((rd_T148 l1_1 x8_3).f2)) = true := bne_iff_ne.mpr c115
              obtain rfl := Option.some.inj H
              have hnb124 := NB136_137.out
              have hnc124 := NB137_136.out
              obtain ⟨hcz125_0, hcz125_1, hfz125_0, hfz125_1⟩ := bc2 BK136.out
              try go_wp2
              have n0_ := Aside0.mk (blk_drew BK136.out)
              have n1_ := Aside0.mk (blk_drew BK137.out)
              have n2_ := Aside0.mk (below_drew1 HB.out)
              clear BK136
              clear BK137
              clear HB
              have BK136 := n0_
              have BK137 := n1_
              have HB := n2_
              clear n0_ n1_ n2_
              have p144 : 0 ≤ (x8_3 : Int) := oa
              have q144 : x8_3 < (l0_1.length : Int) := oa
              obtain ⟨ad144, A144_1, c144_1, e144, hx144_0, hx144_1, hx144_2, hl144_1, hi144_1⟩ := at_T148 HR0_1.out x8_3 p144 q144
              have hw144_2 := hx144_2
              have hw144_1 := hx144_1
              have hw144_0 := hx144_0
              cases e144
              replace hx144_0 := hbc HB.out hx144_0
              replace hx144_1 := hbc HB.out hx144_1
              replace hx144_2 := hbc HB.out hx144_2
              have HR144_1 := Aside0.mk hi144_1
              have HC144_1 := Aside0.mk hl144_1
              clear hi144_1 hl144_1
              replace p144 := eq_true p144
              replace q144 := eq_true q144
              have p145 : 0 ≤ (x8_3 : Int) := oa
              have q145 : x8_3 < (l1_1.length : Int) := oa
              obtain ⟨ad145, A145_1, c145_1, e145, hx145_0, hx145_1, hx145_2, hl145_1, hi145_1⟩ := at_T148 HR1_1.out x8_3 p145 q145
              have hw145_2 := hx145_2
              have hw145_1 := hx145_1
              have hw145_0 := hx145_0
              cases e145
              replace hx145_0 := hbc HB.out hx145_0
              replace hx145_1 := hbc HB.out hx145_1
              replace hx145_2 := hbc HB.out hx145_2
              have HR145_1 := Aside0.mk hi145_1
              have HC145_1 := Aside0.mk hl145_1
              clear hi145_1 hl145_1
              replace p145 := eq_true p145
              replace q145 := eq_true q145
              have p146 : 0 ≤ (x8_3 : Int) := oa
              have q146 : x8_3 < (l0_1.length : Int) := oa
              obtain ⟨ad146, A146_1, c146_1, e146, hx146_0, hx146_1, hx146_2, hl146_1, hi146_1⟩ := at_T148 HR0_1.out x8_3 p146 q146
              have hw146_2 := hx146_2
              have hw146_1 := hx146_1
              have hw146_0 := hx146_0
              obtain rfl : ad144 = ad146 := (by injection e146)
              replace hx146_0 := hbc HB.out hx146_0
              replace hx146_1 := hbc HB.out hx146_1
              replace hx146_2 := hbc HB.out hx146_2
              have HR146_1 := Aside0.mk hi146_1
              have HC146_1 := Aside0.mk hl146_1
              clear hi146_1 hl146_1
              replace p146 := eq_true p146
              replace q146 := eq_true q146
              have ea_ := Option.some.inj (hx144_1.symm.trans hx146_1)
              injection ea_ with ea_ en_ ec_
              subst ea_
              subst ec_
              clear en_
              have p147 : 0 ≤ (x8_3 : Int) := oa
              have q147 : x8_3 < (l1_1.length : Int) := oa
              obtain ⟨ad147, A147_1, c147_1, e147, hx147_0, hx147_1, hx147_2, hl147_1, hi147_1⟩ := at_T148 HR1_1.out x8_3 p147 q147
              have hw147_2 := hx147_2
              have hw147_1 := hx147_1
              have hw147_0 := hx147_0
              obtain rfl : ad145 = ad147 := (by injection e147)
              replace hx147_0 := hbc HB.out hx147_0
              replace hx147_1 := hbc HB.out hx147_1
              replace hx147_2 := hbc HB.out hx147_2
              have HR147_1 := Aside0.mk hi147_1
              have HC147_1 := Aside0.mk hl147_1
              clear hi147_1 hl147_1
              replace p147 := eq_true p147
              replace q147 := eq_true q147
              have ea_ := Option.some.inj (hx145_1.symm.trans hx147_1)
              injection ea_ with ea_ en_ ec_
              subst ea_
              subst ec_
              clear en_
              refine start_ (n := 44) (S := fun w' => w'.cell? ⟨gb136, 0, none⟩ = some (.slice A0_0 l0_0.length c0_0) ∧ w'.cell? ⟨gb136, 1, none⟩ = some (.slice (some ad144) l0_1.length c0_1) ∧ w'.cell? ⟨gb137, 0, none⟩ = some (.slice A1_0 l1_0.length c1_0) ∧ w'.cell? ⟨gb137, 1, none⟩ = some (.slice (some ad145) l1_1.length c1_1) ∧ w'.cell? (ad144.add ((x8_3).toNat * 3)) = some (.string ((rd_T148 l0_1 x8_3).f0)) ∧ w'.cell? ⟨(ad144.add ((x8_3).toNat * 3)).block, (ad144.add ((x8_3).toNat * 3)).off + 1, none⟩ = some (.slice A144_1 ((rd_T148 l0_1 x8_3).f1).length c144_1) ∧ w'.cell? ⟨(ad144.add ((x8_3).toNat * 3)).block, (ad144.add ((x8_3).toNat * 3)).off + 2, none⟩ = some (.int .i64 ((rd_T148 l0_1 x8_3).f2)) ∧ w'.cell? (ad145.add ((x8_3).toNat * 3)) = some (.string ((rd_T148 l1_1 x8_3).f0)) ∧ w'.cell? ⟨(ad145.add ((x8_3).toNat * 3)).block, (ad145.add ((x8_3).toNat * 3)).off + 1, none⟩ = some (.slice A145_1 ((rd_T148 l1_1 x8_3).f1).length c145_1) ∧ w'.cell? ⟨(ad145.add ((x8_3).toNat * 3)).block, (ad145.add ((x8_3).toNat * 3)).off + 2, none⟩ = some (.int .i64 ((rd_T148 l1_1 x8_3).f2)) ∧ w'.cell? (ad144.add ((x8_3).toNat * 3)) = some (.string ((rd_T148 l0_1 x8_3).f0)) ∧ w'.cell? ⟨(ad144.add ((x8_3).toNat * 3)).block, (ad144.add ((x8_3).toNat * 3)).off + 1, none⟩ = some (.slice A144_1 ((rd_T148 l0_1 x8_3).f1).length c144_1) ∧ w'.cell? ⟨(ad144.add ((x8_3).toNat * 3)).block, (ad144.add ((x8_3).toNat * 3)).off + 2, none⟩ = some (.int .i64 ((rd_T148 l0_1 x8_3).f2)) ∧ w'.cell? (ad145.add ((x8_3).toNat * 3)) = some (.string ((rd_T148 l1_1 x8_3).f0)) ∧ w'.cell? ⟨(ad145.add ((x8_3).toNat * 3)).block, (ad145.add ((x8_3).toNat * 3)).off + 1, none⟩ = some (.slice A145_1 ((rd_T148 l1_1 x8_3).f1).length c145_1) ∧ w'.cell? ⟨(ad145.add ((x8_3).toNat * 3)).block, (ad145.add ((x8_3).toNat * 3)).off + 2, none⟩ = some (.int .i64 ((rd_T148 l1_1 x8_3).f2))) (ds := []) #[false, false, false, false, false, false, false, false, false, false, false, false, false, false, false, false, false, false, false, false, false, false, false, false, false, false, false, false, false, false, false, false, false, false, false, false, false, false, false, false, false, false, false, false] (by kernel_rfl) rfl rfl ⟨(blk_cell BK136.out 0).trans rfl, (blk_cell BK136.out 1).trans rfl, (blk_cell BK137.out 0).trans rfl, (blk_cell BK137.out 1).trans rfl, ((HB.out.cell (World.block_lt_of_cell? w _ hw144_0)).trans hw144_0), ((HB.out.cell (World.block_lt_of_cell? w _ hw144_1)).trans hw144_1), ((HB.out.cell (World.block_lt_of_cell? w _ hw144_2)).trans hw144_2), ((HB.out.cell (World.block_lt_of_cell? w _ hw145_0)).trans hw145_0), ((HB.out.cell (World.block_lt_of_cell? w _ hw145_1)).trans hw145_1), ((HB.out.cell (World.block_lt_of_cell? w _ hw145_2)).trans hw145_2), ((HB.out.cell (World.block_lt_of_cell? w _ hw146_0)).trans hw146_0), ((HB.out.cell (World.block_lt_of_cell? w _ hw146_1)).trans hw146_1), ((HB.out.cell (World.block_lt_of_cell? w _ hw146_2)).trans hw146_2), ((HB.out.cell (World.block_lt_of_cell? w _ hw147_0)).trans hw147_0), ((HB.out.cell (World.block_lt_of_cell? w _ hw147_1)).trans hw147_1), ((HB.out.cell (World.block_lt_of_cell? w _ hw147_2)).trans hw147_2)⟩ (fun hHeld => ?_); refine with_tabW spec_SameSurface.tab13 spec_SameSurface.bits13 (fun HT_ HW_ => ?_)
              generalize wr.drew = w126 at BK136 BK137 HB HR144_1 HR145_1 HR146_1 HR147_1 hx144_0 hx144_1 hx144_2 hx145_0 hx145_1 hx145_2 hx146_0 hx146_1 hx146_2 hx147_0 hx147_1 hx147_2 hHeld ⊢
              refine pure_ (i := 0) (N := some 84) (v := ?_) (a' := ?_) (bmk 44 1) rfl rfl (any_of HT_.out (by kernel_rfl)) (fun _ _ _ h => h) (Or.inl ⟨by rfl, ?_⟩) ?_ ?_
              rotate_left
              ·intro w'
               go_simp
               with_reducible rfl
              rotate_left
              ·simp only [Act.put, List.setIfInBounds_toArray, List.set_cons_zero, List.set_cons_succ, i64_w, i32_w]
               rfl
              refine pure_ (i := 2) (N := some 86) (v := ?_) (a' := ?_) (bmk 44 5) rfl rfl (any_of HT_.out (by kernel_rfl)) (fun _ _ _ h => h) (Or.inl ⟨by rfl, ?_⟩) ?_ ?_
              rotate_left
              ·intro w'
               go_simp
               with_reducible rfl
              rotate_left
              ·simp only [Act.put, List.setIfInBounds_toArray, List.set_cons_zero, List.set_cons_succ, i64_w, i32_w]
               rfl
              refine pure_ (i := 6) (N := some 90) (v := ?_) (a' := ?_) (bmk 44 69) rfl rfl (any_of HT_.out (by kernel_rfl)) (fun _ _ _ h => h) (Or.inl ⟨by rfl, ?_⟩) ?_ ?_
              rotate_left
              ·intro w'
               go_simp
               with_reducible rfl
              rotate_left
              ·simp only [Act.put, List.setIfInBounds_toArray, List.set_cons_zero, List.set_cons_succ, i64_w, i32_w]
               rfl
              refine pure_ (i := 8) (N := some 92) (v := ?_) (a' := ?_) (bmk 44 325) rfl rfl (any_of HT_.out (by kernel_rfl)) (fun _ _ _ h => h) (Or.inl ⟨by rfl, ?_⟩) ?_ ?_
              rotate_left
              ·intro w'
               go_simp
               with_reducible rfl
              rotate_left
              ·simp only [Act.put, List.setIfInBounds_toArray, List.set_cons_zero, List.set_cons_succ, i64_w, i32_w]
               rfl
              refine take_ (i := 1) (N := some 85) (v := ?_) (a' := ?_) (bmk 44 327) rfl rfl (take_ofW HT_.out HW_.out (by kernel_rfl)) (fun _ _ _ h => h) (Or.inl ⟨by rfl, ?_⟩) hHeld ?_ ?_
              rotate_left
              ·rintro w' ⟨s0, s1, s2, s3, s4, s5, s6, s7, s8, s9, s10, s11, s12, s13, s14, s15⟩
               go_simp
               with_reducible rfl
              rotate_left
              ·simp only [Act.put, List.setIfInBounds_toArray, List.set_cons_zero, List.set_cons_succ, i64_w, i32_w]
               rfl
              refine pure_ (i := 3) (N := some 87) (v := ?_) (a' := ?_) (bmk 44 335) rfl rfl (any_of HT_.out (by kernel_rfl)) (fun _ _ _ h => h) (Or.inl ⟨by rfl, ?_⟩) ?_ ?_
              rotate_left
              ·intro w'
               go_simp
               with_reducible rfl
              rotate_left
              ·simp only [Act.put, List.setIfInBounds_toArray, List.set_cons_zero, List.set_cons_succ, i64_w, i32_w]
               rfl
              refine pure_ (i := 4) (N := some 88) (v := ?_) (a' := ?_) (bmk 44 351) rfl rfl (any_of HT_.out (by kernel_rfl)) (fun _ _ _ h => h) (Or.inl ⟨by rfl, ?_⟩) ?_ ?_
              rotate_left
              ·intro w'
               go_simp
               with_reducible rfl
              rotate_left
              ·simp only [Act.put, List.setIfInBounds_toArray, List.set_cons_zero, List.set_cons_succ, i64_w, i32_w]
               rfl
              refine take_ (i := 5) (N := some 89) (v := ?_) (a' := ?_) (bmk 44 383) rfl rfl (take_ofW HT_.out HW_.out (by kernel_rfl)) (fun _ _ _ h => h) (Or.inl ⟨by rfl, ?_⟩) hHeld ?_ ?_
              rotate_left
              ·rintro w' ⟨s0, s1, s2, s3, s4, s5, s6, s7, s8, s9, s10, s11, s12, s13, s14, s15⟩
               go_simp
               with_reducible rfl
              rotate_left
              ·simp only [Act.put, List.setIfInBounds_toArray, List.set_cons_zero, List.set_cons_succ, i64_w, i32_w]
               rfl
              refine take_ (i := 7) (N := some 91) (v := ?_) (a' := ?_) (bmk 44 511) rfl rfl (take_ofW HT_.out HW_.out (by kernel_rfl)) (fun _ _ _ h => h) (Or.inl ⟨by rfl, ?_⟩) hHeld ?_ ?_
              rotate_left
              ·rintro w' ⟨s0, s1, s2, s3, s4, s5, s6, s7, s8, s9, s10, s11, s12, s13, s14, s15⟩
               go_simp
               with_reducible rfl
              rotate_left
              ·simp only [Act.put, List.setIfInBounds_toArray, List.set_cons_zero, List.set_cons_succ, i64_w, i32_w]
               rfl
              refine pure_ (i := 9) (N := some 93) (v := ?_) (a' := ?_) (bmk 44 1023) rfl rfl (any_of HT_.out (by kernel_rfl)) (fun _ _ _ h => h) (Or.inl ⟨by rfl, ?_⟩) ?_ ?_
              rotate_left
              ·intro w'
               go_simp
               with_reducible rfl
              rotate_left
              ·simp only [Act.put, List.setIfInBounds_toArray, List.set_cons_zero, List.set_cons_succ, i64_w, i32_w]
               rfl
              refine pure_ (i := 10) (N := some 94) (v := ?_) (a' := ?_) (bmk 44 2047) rfl rfl (any_of HT_.out (by kernel_rfl)) (fun _ _ _ h => h) (Or.inl ⟨by rfl, ?_⟩) ?_ ?_
              rotate_left
              ·intro w'
               go_simp
               with_reducible rfl
              rotate_left
              ·simp only [Act.put, List.setIfInBounds_toArray, List.set_cons_zero, List.set_cons_succ, i64_w, i32_w]
               rfl
              refine take_ (i := 11) (N := some 95) (v := ?_) (a' := ?_) (bmk 44 4095) rfl rfl (take_ofW HT_.out HW_.out (by kernel_rfl)) (fun _ _ _ h => h) (Or.inl ⟨by rfl, ?_⟩) hHeld ?_ ?_
              rotate_left
              ·rintro w' ⟨s0, s1, s2, s3, s4, s5, s6, s7, s8, s9, s10, s11, s12, s13, s14, s15⟩
               go_simp
               with_reducible rfl
              rotate_left
              ·simp only [Act.put, List.setIfInBounds_toArray, List.set_cons_zero, List.set_cons_succ, i64_w, i32_w]
               rfl
              refine pure_ (i := 12) (N := some 96) (v := ?_) (a' := ?_) (bmk 44 8191) rfl rfl (any_of HT_.out (by kernel_rfl)) (fun _ _ _ h => h) (Or.inl ⟨by rfl, ?_⟩) ?_ ?_
              rotate_left
              ·intro w'
               go_simp
               with_reducible rfl
              rotate_left
              ·simp only [Act.put, List.setIfInBounds_toArray, List.set_cons_zero, List.set_cons_succ, i64_w, i32_w]
               rfl
              refine pure_ (i := 13) (N := some 97) (v := ?_) (a' := ?_) (bmk 44 16383) rfl rfl (any_of HT_.out (by kernel_rfl)) (fun _ _ _ h => h) (Or.inl ⟨by rfl, ?_⟩) ?_ ?_
              rotate_left
              ·intro w'
               go_simp
               with_reducible rfl
              rotate_left
              ·simp only [Act.put, List.setIfInBounds_toArray, List.set_cons_zero, List.set_cons_succ, i64_w, i32_w]
               rfl
              refine pure_ (i := 14) (N := some 98) (v := ?_) (a' := ?_) (bmk 44 32767) rfl rfl (any_of HT_.out (by kernel_rfl)) (fun _ _ _ h => h) (Or.inl ⟨by rfl, ?_⟩) ?_ ?_
              rotate_left
              ·intro w'
               go_simp
               with_reducible rfl
              rotate_left
              ·simp only [Act.put, List.setIfInBounds_toArray, List.set_cons_zero, List.set_cons_succ, i64_w, i32_w]
               rfl
              refine pure_ (i := 16) (N := some 100) (v := ?_) (a' := ?_) (bmk 44 98303) rfl rfl (any_of HT_.out (by kernel_rfl)) (fun _ _ _ h => h) (Or.inl ⟨by rfl, ?_⟩) ?_ ?_
              rotate_left
              ·intro w'
               go_simp
               with_reducible rfl
              rotate_left
              ·simp only [Act.put, List.setIfInBounds_toArray, List.set_cons_zero, List.set_cons_succ, i64_w, i32_w]
               rfl
              refine pure_ (i := 20) (N := some 104) (v := ?_) (a' := ?_) (bmk 44 1146879) rfl rfl (any_of HT_.out (by kernel_rfl)) (fun _ _ _ h => h) (Or.inl ⟨by rfl, ?_⟩) ?_ ?_
              rotate_left
              ·intro w'
               go_simp
               with_reducible rfl
              rotate_left
              ·simp only [Act.put, List.setIfInBounds_toArray, List.set_cons_zero, List.set_cons_succ, i64_w, i32_w]
               rfl
              refine pure_ (i := 22) (N := some 106) (v := ?_) (a' := ?_) (bmk 44 5341183) rfl rfl (any_of HT_.out (by kernel_rfl)) (fun _ _ _ h => h) (Or.inl ⟨by rfl, ?_⟩) ?_ ?_
              rotate_left
              ·intro w'
               go_simp
               with_reducible rfl
              rotate_left
              ·simp only [Act.put, List.setIfInBounds_toArray, List.set_cons_zero, List.set_cons_succ, i64_w, i32_w]
               rfl
              refine take_ (i := 15) (N := some 99) (v := ?_) (a' := ?_) (bmk 44 5373951) rfl rfl (take_ofW HT_.out HW_.out (by kernel_rfl)) (fun _ _ _ h => h) (Or.inl ⟨by rfl, ?_⟩) hHeld ?_ ?_
              rotate_left
              ·rintro w' ⟨s0, s1, s2, s3, s4, s5, s6, s7, s8, s9, s10, s11, s12, s13, s14, s15⟩
               go_simp
               with_reducible rfl
              rotate_left
              ·simp only [Act.put, List.setIfInBounds_toArray, List.set_cons_zero, List.set_cons_succ, i64_w, i32_w]
               rfl
              refine pure_ (i := 17) (N := some 101) (v := ?_) (a' := ?_) (bmk 44 5505023) rfl rfl (any_of HT_.out (by kernel_rfl)) (fun _ _ _ h => h) (Or.inl ⟨by rfl, ?_⟩) ?_ ?_
              rotate_left
              ·intro w'
               go_simp
               with_reducible rfl
              rotate_left
              ·simp only [Act.put, List.setIfInBounds_toArray, List.set_cons_zero, List.set_cons_succ, i64_w, i32_w]
               rfl
              refine pure_ (i := 18) (N := some 102) (v := ?_) (a' := ?_) (bmk 44 5767167) rfl rfl (any_of HT_.out (by kernel_rfl)) (fun _ _ _ h => h) (Or.inl ⟨by rfl, ?_⟩) ?_ ?_
              rotate_left
              ·intro w'
               go_simp
               with_reducible rfl
              rotate_left
              ·simp only [Act.put, List.setIfInBounds_toArray, List.set_cons_zero, List.set_cons_succ, i64_w, i32_w]
               rfl
              refine take_ (i := 19) (N := some 103) (v := ?_) (a' := ?_) (bmk 44 6291455) rfl rfl (take_ofW HT_.out HW_.out (by kernel_rfl)) (fun _ _ _ h => h) (Or.inl ⟨by rfl, ?_⟩) hHeld ?_ ?_
              rotate_left
              ·rintro w' ⟨s0, s1, s2, s3, s4, s5, s6, s7, s8, s9, s10, s11, s12, s13, s14, s15⟩
               go_simp
               with_reducible rfl
              rotate_left
              ·simp only [Act.put, List.setIfInBounds_toArray, List.set_cons_zero, List.set_cons_succ, i64_w, i32_w]
               rfl
              refine take_ (i := 21) (N := some 105) (v := ?_) (a' := ?_) (bmk 44 8388607) rfl rfl (take_ofW HT_.out HW_.out (by kernel_rfl)) (fun _ _ _ h => h) (Or.inl ⟨by rfl, ?_⟩) hHeld ?_ ?_
              rotate_left
              ·rintro w' ⟨s0, s1, s2, s3, s4, s5, s6, s7, s8, s9, s10, s11, s12, s13, s14, s15⟩
               go_simp
               with_reducible rfl
              rotate_left
              ·simp only [Act.put, List.setIfInBounds_toArray, List.set_cons_zero, List.set_cons_succ, i64_w, i32_w]
               rfl
              refine pure_ (i := 23) (N := some 107) (v := ?_) (a' := ?_) (bmk 44 16777215) rfl rfl (any_of HT_.out (by kernel_rfl)) (fun _ _ _ h => h) (Or.inl ⟨by rfl, ?_⟩) ?_ ?_
              rotate_left
              ·intro w'
               go_simp
               with_reducible rfl
              rotate_left
              ·simp only [Act.put, List.setIfInBounds_toArray, List.set_cons_zero, List.set_cons_succ, i64_w, i32_w]
               rfl
              refine pure_ (i := 24) (N := some 108) (v := ?_) (a' := ?_) (bmk 44 33554431) rfl rfl (any_of HT_.out (by kernel_rfl)) (fun _ _ _ h => h) (Or.inl ⟨by rfl, ?_⟩) ?_ ?_
              rotate_left
              ·intro w'
               go_simp
               with_reducible rfl
              rotate_left
              ·simp only [Act.put, List.setIfInBounds_toArray, List.set_cons_zero, List.set_cons_succ, i64_w, i32_w]
               rfl
              refine take_ (i := 25) (N := some 109) (v := ?_) (a' := ?_) (bmk 44 67108863) rfl rfl (take_ofW HT_.out HW_.out (by kernel_rfl)) (fun _ _ _ h => h) (Or.inl ⟨by rfl, ?_⟩) hHeld ?_ ?_
              rotate_left
              ·rintro w' ⟨s0, s1, s2, s3, s4, s5, s6, s7, s8, s9, s10, s11, s12, s13, s14, s15⟩
               go_simp
               with_reducible rfl
              rotate_left
              ·simp only [Act.put, List.setIfInBounds_toArray, List.set_cons_zero, List.set_cons_succ, i64_w, i32_w]
               rfl
              refine pure_ (i := 26) (N := some 110) (v := ?_) (a' := ?_) (bmk 44 134217727) rfl rfl (any_of HT_.out (by kernel_rfl)) (fun _ _ _ h => h) (Or.inl ⟨by rfl, ?_⟩) ?_ ?_
              rotate_left
              ·intro w'
               go_simp
               with_reducible rfl
              rotate_left
              ·simp only [Act.put, List.setIfInBounds_toArray, List.set_cons_zero, List.set_cons_succ, i64_w, i32_w]
               rfl
              refine pure_ (i := 27) (N := some 111) (v := ?_) (a' := ?_) (bmk 44 268435455) rfl rfl (any_of HT_.out (by kernel_rfl)) (fun _ _ _ h => h) (Or.inl ⟨by rfl, ?_⟩) ?_ ?_
              rotate_left
              ·intro w'
               go_simp
               with_reducible rfl
              rotate_left
              ·simp only [Act.put, List.setIfInBounds_toArray, List.set_cons_zero, List.set_cons_succ, i64_w, i32_w]
               rfl
              refine pure_ (i := 28) (N := some 112) (v := ?_) (a' := ?_) (bmk 44 536870911) rfl rfl (any_of HT_.out (by kernel_rfl)) (fun _ _ _ h => h) (Or.inl ⟨by rfl, ?_⟩) ?_ ?_
              rotate_left
              ·intro w'
               go_simp
               with_reducible rfl
              rotate_left
              ·simp only [Act.put, List.setIfInBounds_toArray, List.set_cons_zero, List.set_cons_succ, i64_w, i32_w]
               rfl
              refine pure_ (i := 29) (N := some 113) (v := undef) (a' := ?_) (bmk 44 1073741823) rfl rfl (any_of HT_.out (by kernel_rfl)) (fun _ _ _ h => h) (Or.inr ⟨by rfl, rfl⟩) ?_ ?_
              rotate_left
              ·simp only [Act.put, List.setIfInBounds_toArray, List.set_cons_zero, List.set_cons_succ, i64_w, i32_w]
               rfl
              refine pure_ (i := 30) (N := some 114) (v := undef) (a' := ?_) (bmk 44 2147483647) rfl rfl (any_of HT_.out (by kernel_rfl)) (fun _ _ _ h => h) (Or.inr ⟨by rfl, rfl⟩) ?_ ?_
              rotate_left
              ·simp only [Act.put, List.setIfInBounds_toArray, List.set_cons_zero, List.set_cons_succ, i64_w, i32_w]
               rfl
              refine pure_ (i := 31) (N := some 115) (v := undef) (a' := ?_) (bmk 44 4294967295) rfl rfl (any_of HT_.out (by kernel_rfl)) (fun _ _ _ h => h) (Or.inr ⟨by rfl, rfl⟩) ?_ ?_
              rotate_left
              ·simp only [Act.put, List.setIfInBounds_toArray, List.set_cons_zero, List.set_cons_succ, i64_w, i32_w]
               rfl
              refine pure_ (i := 32) (N := some 116) (v := undef) (a' := ?_) (bmk 44 8589934591) rfl rfl (any_of HT_.out (by kernel_rfl)) (fun _ _ _ h => h) (Or.inr ⟨by rfl, rfl⟩) ?_ ?_
              rotate_left
              ·simp only [Act.put, List.setIfInBounds_toArray, List.set_cons_zero, List.set_cons_succ, i64_w, i32_w]
               rfl
              refine pure_ (i := 33) (N := some 117) (v := undef) (a' := ?_) (bmk 44 17179869183) rfl rfl (any_of HT_.out (by kernel_rfl)) (fun _ _ _ h => h) (Or.inr ⟨by rfl, rfl⟩) ?_ ?_
              rotate_left
              ·simp only [Act.put, List.setIfInBounds_toArray, List.set_cons_zero, List.set_cons_succ, i64_w, i32_w]
               rfl
              refine pure_ (i := 34) (N := some 118) (v := undef) (a' := ?_) (bmk 44 34359738367) rfl rfl (any_of HT_.out (by kernel_rfl)) (fun _ _ _ h => h) (Or.inr ⟨by rfl, rfl⟩) ?_ ?_
              rotate_left
              ·simp only [Act.put, List.setIfInBounds_toArray, List.set_cons_zero, List.set_cons_succ, i64_w, i32_w]
               rfl
              refine pure_ (i := 35) (N := some 119) (v := undef) (a' := ?_) (bmk 44 68719476735) rfl rfl (any_of HT_.out (by kernel_rfl)) (fun _ _ _ h => h) (Or.inr ⟨by rfl, rfl⟩) ?_ ?_
              rotate_left
              ·simp only [Act.put, List.setIfInBounds_toArray, List.set_cons_zero, List.set_cons_succ, i64_w, i32_w]
               rfl
              refine pure_ (i := 36) (N := some 120) (v := undef) (a' := ?_) (bmk 44 137438953471) rfl rfl (any_of HT_.out (by kernel_rfl)) (fun _ _ _ h => h) (Or.inr ⟨by rfl, rfl⟩) ?_ ?_
              rotate_left
              ·simp only [Act.put, List.setIfInBounds_toArray, List.set_cons_zero, List.set_cons_succ, i64_w, i32_w]
               rfl
              refine pure_ (i := 37) (N := some 121) (v := undef) (a' := ?_) (bmk 44 274877906943) rfl rfl (any_of HT_.out (by kernel_rfl)) (fun _ _ _ h => h) (Or.inr ⟨by rfl, rfl⟩) ?_ ?_
              rotate_left
              ·simp only [Act.put, List.setIfInBounds_toArray, List.set_cons_zero, List.set_cons_succ, i64_w, i32_w]
               rfl
              refine pure_ (i := 38) (N := some 122) (v := undef) (a' := ?_) (bmk 44 549755813887) rfl rfl (any_of HT_.out (by kernel_rfl)) (fun _ _ _ h => h) (Or.inr ⟨by rfl, rfl⟩) ?_ ?_
              rotate_left
              ·simp only [Act.put, List.setIfInBounds_toArray, List.set_cons_zero, List.set_cons_succ, i64_w, i32_w]
               rfl
              refine pure_ (i := 39) (N := some 123) (v := undef) (a' := ?_) (bmk 44 1099511627775) rfl rfl (any_of HT_.out (by kernel_rfl)) (fun _ _ _ h => h) (Or.inr ⟨by rfl, rfl⟩) ?_ ?_
              rotate_left
              ·simp only [Act.put, List.setIfInBounds_toArray, List.set_cons_zero, List.set_cons_succ, i64_w, i32_w]
               rfl
              refine pure_ (i := 40) (N := some 124) (v := undef) (a' := ?_) (bmk 44 2199023255551) rfl rfl (any_of HT_.out (by kernel_rfl)) (fun _ _ _ h => h) (Or.inr ⟨by rfl, rfl⟩) ?_ ?_
              rotate_left
              ·simp only [Act.put, List.setIfInBounds_toArray, List.set_cons_zero, List.set_cons_succ, i64_w, i32_w]
               rfl
              refine pure_ (i := 41) (N := some 125) (v := undef) (a' := ?_) (bmk 44 4398046511103) rfl rfl (any_of HT_.out (by kernel_rfl)) (fun _ _ _ h => h) (Or.inr ⟨by rfl, rfl⟩) ?_ ?_
              rotate_left
              ·simp only [Act.put, List.setIfInBounds_toArray, List.set_cons_zero, List.set_cons_succ, i64_w, i32_w]
               rfl
              refine pure_ (i := 42) (N := some 126) (v := undef) (a' := ?_) (bmk 44 8796093022207) rfl rfl (any_of HT_.out (by kernel_rfl)) (fun _ _ _ h => h) (Or.inr ⟨by rfl, rfl⟩) ?_ ?_
              rotate_left
              ·simp only [Act.put, List.setIfInBounds_toArray, List.set_cons_zero, List.set_cons_succ, i64_w, i32_w]
               rfl
              refine pure_ (i := 43) (N := some 127) (v := ?_) (a' := ?_) (bmk 44 17592186044415) rfl rfl (any_of HT_.out (by kernel_rfl)) (fun _ _ _ h => h) (Or.inl ⟨by rfl, ?_⟩) ?_ ?_
              rotate_left
              ·intro w'
               go_simp
               with_reducible rfl
              rotate_left
              ·simp only [Act.put, List.setIfInBounds_toArray, List.set_cons_zero, List.set_cons_succ, i64_w, i32_w]
               rfl
              refine done_ (done_of HT_.out (by kernel_rfl)) ?_
              try go_wp2
              go_ret
              exact ⟨by first | rfl | (simp [errW_none, errW_some] <;> rfl) | (simp [*, errW_none, errW_some] <;> rfl), by repeat (first | (with_reducible first | exact HB.out | apply below_alloc | apply pw_below_drewN | apply below_drew1 | refine below_set ?_ GE136.out | refine below_set ?_ GE137.out) | exact HB.out)⟩
            ·rw [if_neg c114] at H
             have c114b0 : (((rd_T148 l0_1 x8_3).f0).toList == ((rd_T148 l1_1 x8_3).f0).toList) = false := beq_eq_false_iff_ne.mpr c114
             have c114b1 : (((rd_T148 l0_1 x8_3).f0).toList != ((rd_T148 l1_1 x8_3).f0).toList) = true := bne_iff_ne.mpr c114
             obtain rfl := Option.some.inj H
             have hnb127 := NB136_137.out
             have hnc127 := NB137_136.out
             obtain ⟨hcz128_0, hcz128_1, hfz128_0, hfz128_1⟩ := bc2 BK136.out
             try go_wp2
             have n0_ := Aside0.mk (blk_drew BK136.out)
             have n1_ := Aside0.mk (blk_drew BK137.out)
             have n2_ := Aside0.mk (below_drew1 HB.out)
             clear BK136
             clear BK137
             clear HB
             have BK136 := n0_
             have BK137 := n1_
             have HB := n2_
             clear n0_ n1_ n2_
             have p144 : 0 ≤ (x8_3 : Int) := oa
             have q144 : x8_3 < (l0_1.length : Int) := oa
             obtain ⟨ad144, A144_1, c144_1, e144, hx144_0, hx144_1, hx144_2, hl144_1, hi144_1⟩ := at_T148 HR0_1.out x8_3 p144 q144
             have hw144_2 := hx144_2
             have hw144_1 := hx144_1
             have hw144_0 := hx144_0
             cases e144
             replace hx144_0 := hbc HB.out hx144_0
             replace hx144_1 := hbc HB.out hx144_1
             replace hx144_2 := hbc HB.out hx144_2
             have HR144_1 := Aside0.mk hi144_1
             have HC144_1 := Aside0.mk hl144_1
             clear hi144_1 hl144_1
             replace p144 := eq_true p144
             replace q144 := eq_true q144
             have p145 : 0 ≤ (x8_3 : Int) := oa
             have q145 : x8_3 < (l1_1.length : Int) := oa
             obtain ⟨ad145, A145_1, c145_1, e145, hx145_0, hx145_1, hx145_2, hl145_1, hi145_1⟩ := at_T148 HR1_1.out x8_3 p145 q145
             have hw145_2 := hx145_2
             have hw145_1 := hx145_1
             have hw145_0 := hx145_0
             cases e145
             replace hx145_0 := hbc HB.out hx145_0
             replace hx145_1 := hbc HB.out hx145_1
             replace hx145_2 := hbc HB.out hx145_2
             have HR145_1 := Aside0.mk hi145_1
             have HC145_1 := Aside0.mk hl145_1
             clear hi145_1 hl145_1
             replace p145 := eq_true p145
             replace q145 := eq_true q145
             refine start_ (n := 44) (S := fun w' => w'.cell? ⟨gb136, 0, none⟩ = some (.slice A0_0 l0_0.length c0_0) ∧ w'.cell? ⟨gb136, 1, none⟩ = some (.slice (some ad144) l0_1.length c0_1) ∧ w'.cell? ⟨gb137, 0, none⟩ = some (.slice A1_0 l1_0.length c1_0) ∧ w'.cell? ⟨gb137, 1, none⟩ = some (.slice (some ad145) l1_1.length c1_1) ∧ w'.cell? (ad144.add ((x8_3).toNat * 3)) = some (.string ((rd_T148 l0_1 x8_3).f0)) ∧ w'.cell? ⟨(ad144.add ((x8_3).toNat * 3)).block, (ad144.add ((x8_3).toNat * 3)).off + 1, none⟩ = some (.slice A144_1 ((rd_T148 l0_1 x8_3).f1).length c144_1) ∧ w'.cell? ⟨(ad144.add ((x8_3).toNat * 3)).block, (ad144.add ((x8_3).toNat * 3)).off + 2, none⟩ = some (.int .i64 ((rd_T148 l0_1 x8_3).f2)) ∧ w'.cell? (ad145.add ((x8_3).toNat * 3)) = some (.string ((rd_T148 l1_1 x8_3).f0)) ∧ w'.cell? ⟨(ad145.add ((x8_3).toNat * 3)).block, (ad145.add ((x8_3).toNat * 3)).off + 1, none⟩ = some (.slice A145_1 ((rd_T148 l1_1 x8_3).f1).length c145_1) ∧ w'.cell? ⟨(ad145.add ((x8_3).toNat * 3)).block, (ad145.add ((x8_3).toNat * 3)).off + 2, none⟩ = some (.int .i64 ((rd_T148 l1_1 x8_3).f2))) (ds := []) #[false, false, false, false, false, false, false, false, false, false, false, false, false, false, false, false, false, false, false, false, false, false, false, false, false, false, false, false, false, false, false, false, false, false, false, false, false, false, false, false, false, false, false, false] (by kernel_rfl) rfl rfl ⟨(blk_cell BK136.out 0).trans rfl, (blk_cell BK136.out 1).trans rfl, (blk_cell BK137.out 0).trans rfl, (blk_cell BK137.out 1).trans rfl, ((HB.out.cell (World.block_lt_of_cell? w _ hw144_0)).trans hw144_0), ((HB.out.cell (World.block_lt_of_cell? w _ hw144_1)).trans hw144_1), ((HB.out.cell (World.block_lt_of_cell? w _ hw144_2)).trans hw144_2), ((HB.out.cell (World.block_lt_of_cell? w _ hw145_0)).trans hw145_0), ((HB.out.cell (World.block_lt_of_cell? w _ hw145_1)).trans hw145_1), ((HB.out.cell (World.block_lt_of_cell? w _ hw145_2)).trans hw145_2)⟩ (fun hHeld => ?_); refine with_tabW spec_SameSurface.tab13 spec_SameSurface.bits13 (fun HT_ HW_ => ?_)
             generalize wr.drew = w129 at BK136 BK137 HB HR144_1 HR145_1 hx144_0 hx144_1 hx144_2 hx145_0 hx145_1 hx145_2 hHeld ⊢
             refine pure_ (i := 0) (N := some 84) (v := ?_) (a' := ?_) (bmk 44 1) rfl rfl (any_of HT_.out (by kernel_rfl)) (fun _ _ _ h => h) (Or.inl ⟨by rfl, ?_⟩) ?_ ?_
             rotate_left
             ·intro w'
              go_simp
              with_reducible rfl
             rotate_left
             ·simp only [Act.put, List.setIfInBounds_toArray, List.set_cons_zero, List.set_cons_succ, i64_w, i32_w]
              rfl
             refine pure_ (i := 2) (N := some 86) (v := ?_) (a' := ?_) (bmk 44 5) rfl rfl (any_of HT_.out (by kernel_rfl)) (fun _ _ _ h => h) (Or.inl ⟨by rfl, ?_⟩) ?_ ?_
             rotate_left
             ·intro w'
              go_simp
              with_reducible rfl
             rotate_left
             ·simp only [Act.put, List.setIfInBounds_toArray, List.set_cons_zero, List.set_cons_succ, i64_w, i32_w]
              rfl
             refine pure_ (i := 6) (N := some 90) (v := ?_) (a' := ?_) (bmk 44 69) rfl rfl (any_of HT_.out (by kernel_rfl)) (fun _ _ _ h => h) (Or.inl ⟨by rfl, ?_⟩) ?_ ?_
             rotate_left
             ·intro w'
              go_simp
              with_reducible rfl
             rotate_left
             ·simp only [Act.put, List.setIfInBounds_toArray, List.set_cons_zero, List.set_cons_succ, i64_w, i32_w]
              rfl
             refine pure_ (i := 8) (N := some 92) (v := ?_) (a' := ?_) (bmk 44 325) rfl rfl (any_of HT_.out (by kernel_rfl)) (fun _ _ _ h => h) (Or.inl ⟨by rfl, ?_⟩) ?_ ?_
             rotate_left
             ·intro w'
              go_simp
              with_reducible rfl
             rotate_left
             ·simp only [Act.put, List.setIfInBounds_toArray, List.set_cons_zero, List.set_cons_succ, i64_w, i32_w]
              rfl
             refine take_ (i := 1) (N := some 85) (v := ?_) (a' := ?_) (bmk 44 327) rfl rfl (take_ofW HT_.out HW_.out (by kernel_rfl)) (fun _ _ _ h => h) (Or.inl ⟨by rfl, ?_⟩) hHeld ?_ ?_
             rotate_left
             ·rintro w' ⟨s0, s1, s2, s3, s4, s5, s6, s7, s8, s9⟩
              go_simp
              with_reducible rfl
             rotate_left
             ·simp only [Act.put, List.setIfInBounds_toArray, List.set_cons_zero, List.set_cons_succ, i64_w, i32_w]
              rfl
             refine pure_ (i := 3) (N := some 87) (v := ?_) (a' := ?_) (bmk 44 335) rfl rfl (any_of HT_.out (by kernel_rfl)) (fun _ _ _ h => h) (Or.inl ⟨by rfl, ?_⟩) ?_ ?_
             rotate_left
             ·intro w'
              go_simp
              with_reducible rfl
             rotate_left
             ·simp only [Act.put, List.setIfInBounds_toArray, List.set_cons_zero, List.set_cons_succ, i64_w, i32_w]
              rfl
             refine pure_ (i := 4) (N := some 88) (v := ?_) (a' := ?_) (bmk 44 351) rfl rfl (any_of HT_.out (by kernel_rfl)) (fun _ _ _ h => h) (Or.inl ⟨by rfl, ?_⟩) ?_ ?_
             rotate_left
             ·intro w'
              go_simp
              with_reducible rfl
             rotate_left
             ·simp only [Act.put, List.setIfInBounds_toArray, List.set_cons_zero, List.set_cons_succ, i64_w, i32_w]
              rfl
             refine take_ (i := 5) (N := some 89) (v := ?_) (a' := ?_) (bmk 44 383) rfl rfl (take_ofW HT_.out HW_.out (by kernel_rfl)) (fun _ _ _ h => h) (Or.inl ⟨by rfl, ?_⟩) hHeld ?_ ?_
             rotate_left
             ·rintro w' ⟨s0, s1, s2, s3, s4, s5, s6, s7, s8, s9⟩
              go_simp
              with_reducible rfl
             rotate_left
             ·simp only [Act.put, List.setIfInBounds_toArray, List.set_cons_zero, List.set_cons_succ, i64_w, i32_w]
              rfl
             refine take_ (i := 7) (N := some 91) (v := ?_) (a' := ?_) (bmk 44 511) rfl rfl (take_ofW HT_.out HW_.out (by kernel_rfl)) (fun _ _ _ h => h) (Or.inl ⟨by rfl, ?_⟩) hHeld ?_ ?_
             rotate_left
             ·rintro w' ⟨s0, s1, s2, s3, s4, s5, s6, s7, s8, s9⟩
              go_simp
              with_reducible rfl
             rotate_left
             ·simp only [Act.put, List.setIfInBounds_toArray, List.set_cons_zero, List.set_cons_succ, i64_w, i32_w]
              rfl
             refine pure_ (i := 9) (N := some 93) (v := ?_) (a' := ?_) (bmk 44 1023) rfl rfl (any_of HT_.out (by kernel_rfl)) (fun _ _ _ h => h) (Or.inl ⟨by rfl, ?_⟩) ?_ ?_
             rotate_left
             ·intro w'
              go_simp
              with_reducible rfl
             rotate_left
             ·simp only [Act.put, List.setIfInBounds_toArray, List.set_cons_zero, List.set_cons_succ, i64_w, i32_w]
              rfl
             refine pure_ (i := 10) (N := some 94) (v := ?_) (a' := ?_) (bmk 44 2047) rfl rfl (any_of HT_.out (by kernel_rfl)) (fun _ _ _ h => h) (Or.inl ⟨by rfl, ?_⟩) ?_ ?_
             rotate_left
             ·intro w'
              go_simp
              with_reducible rfl
             rotate_left
             ·simp only [Act.put, List.setIfInBounds_toArray, List.set_cons_zero, List.set_cons_succ, i64_w, i32_w]
              rfl
             refine take_ (i := 11) (N := some 95) (v := ?_) (a' := ?_) (bmk 44 4095) rfl rfl (take_ofW HT_.out HW_.out (by kernel_rfl)) (fun _ _ _ h => h) (Or.inl ⟨by rfl, ?_⟩) hHeld ?_ ?_
             rotate_left
             ·rintro w' ⟨s0, s1, s2, s3, s4, s5, s6, s7, s8, s9⟩
              go_simp
              with_reducible rfl
             rotate_left
             ·simp only [Act.put, List.setIfInBounds_toArray, List.set_cons_zero, List.set_cons_succ, i64_w, i32_w]
              rfl
             refine pure_ (i := 12) (N := some 96) (v := ?_) (a' := ?_) (bmk 44 8191) rfl rfl (any_of HT_.out (by kernel_rfl)) (fun _ _ _ h => h) (Or.inl ⟨by rfl, ?_⟩) ?_ ?_
             rotate_left
             ·intro w'
              go_simp
              with_reducible rfl
             rotate_left
             ·simp only [Act.put, List.setIfInBounds_toArray, List.set_cons_zero, List.set_cons_succ, i64_w, i32_w]
              rfl
             refine pure_ (i := 13) (N := some 97) (v := ?_) (a' := ?_) (bmk 44 16383) rfl rfl (any_of HT_.out (by kernel_rfl)) (fun _ _ _ h => h) (Or.inl ⟨by rfl, ?_⟩) ?_ ?_
             rotate_left
             ·intro w'
              go_simp
              with_reducible rfl
             rotate_left
             ·simp only [Act.put, List.setIfInBounds_toArray, List.set_cons_zero, List.set_cons_succ, i64_w, i32_w]
              rfl
             refine pure_ (i := 14) (N := some 98) (v := undef) (a' := ?_) (bmk 44 32767) rfl rfl (any_of HT_.out (by kernel_rfl)) (fun _ _ _ h => h) (Or.inr ⟨by rfl, rfl⟩) ?_ ?_
             rotate_left
             ·simp only [Act.put, List.setIfInBounds_toArray, List.set_cons_zero, List.set_cons_succ, i64_w, i32_w]
              rfl
             refine pure_ (i := 15) (N := some 99) (v := undef) (a' := ?_) (bmk 44 65535) rfl rfl (any_of HT_.out (by kernel_rfl)) (fun _ _ _ h => h) (Or.inr ⟨by rfl, rfl⟩) ?_ ?_
             rotate_left
             ·simp only [Act.put, List.setIfInBounds_toArray, List.set_cons_zero, List.set_cons_succ, i64_w, i32_w]
              rfl
             refine pure_ (i := 16) (N := some 100) (v := undef) (a' := ?_) (bmk 44 131071) rfl rfl (any_of HT_.out (by kernel_rfl)) (fun _ _ _ h => h) (Or.inr ⟨by rfl, rfl⟩) ?_ ?_
             rotate_left
             ·simp only [Act.put, List.setIfInBounds_toArray, List.set_cons_zero, List.set_cons_succ, i64_w, i32_w]
              rfl
             refine pure_ (i := 17) (N := some 101) (v := undef) (a' := ?_) (bmk 44 262143) rfl rfl (any_of HT_.out (by kernel_rfl)) (fun _ _ _ h => h) (Or.inr ⟨by rfl, rfl⟩) ?_ ?_
             rotate_left
             ·simp only [Act.put, List.setIfInBounds_toArray, List.set_cons_zero, List.set_cons_succ, i64_w, i32_w]
              rfl
             refine pure_ (i := 18) (N := some 102) (v := undef) (a' := ?_) (bmk 44 524287) rfl rfl (any_of HT_.out (by kernel_rfl)) (fun _ _ _ h => h) (Or.inr ⟨by rfl, rfl⟩) ?_ ?_
             rotate_left
             ·simp only [Act.put, List.setIfInBounds_toArray, List.set_cons_zero, List.set_cons_succ, i64_w, i32_w]
              rfl
             refine pure_ (i := 19) (N := some 103) (v := undef) (a' := ?_) (bmk 44 1048575) rfl rfl (any_of HT_.out (by kernel_rfl)) (fun _ _ _ h => h) (Or.inr ⟨by rfl, rfl⟩) ?_ ?_
             rotate_left
             ·simp only [Act.put, List.setIfInBounds_toArray, List.set_cons_zero, List.set_cons_succ, i64_w, i32_w]
              rfl
             refine pure_ (i := 20) (N := some 104) (v := undef) (a' := ?_) (bmk 44 2097151) rfl rfl (any_of HT_.out (by kernel_rfl)) (fun _ _ _ h => h) (Or.inr ⟨by rfl, rfl⟩) ?_ ?_
             rotate_left
             ·simp only [Act.put, List.setIfInBounds_toArray, List.set_cons_zero, List.set_cons_succ, i64_w, i32_w]
              rfl
             refine pure_ (i := 21) (N := some 105) (v := undef) (a' := ?_) (bmk 44 4194303) rfl rfl (any_of HT_.out (by kernel_rfl)) (fun _ _ _ h => h) (Or.inr ⟨by rfl, rfl⟩) ?_ ?_
             rotate_left
             ·simp only [Act.put, List.setIfInBounds_toArray, List.set_cons_zero, List.set_cons_succ, i64_w, i32_w]
              rfl
             refine pure_ (i := 22) (N := some 106) (v := undef) (a' := ?_) (bmk 44 8388607) rfl rfl (any_of HT_.out (by kernel_rfl)) (fun _ _ _ h => h) (Or.inr ⟨by rfl, rfl⟩) ?_ ?_
             rotate_left
             ·simp only [Act.put, List.setIfInBounds_toArray, List.set_cons_zero, List.set_cons_succ, i64_w, i32_w]
              rfl
             refine pure_ (i := 23) (N := some 107) (v := undef) (a' := ?_) (bmk 44 16777215) rfl rfl (any_of HT_.out (by kernel_rfl)) (fun _ _ _ h => h) (Or.inr ⟨by rfl, rfl⟩) ?_ ?_
             rotate_left
             ·simp only [Act.put, List.setIfInBounds_toArray, List.set_cons_zero, List.set_cons_succ, i64_w, i32_w]
              rfl
             refine pure_ (i := 24) (N := some 108) (v := undef) (a' := ?_) (bmk 44 33554431) rfl rfl (any_of HT_.out (by kernel_rfl)) (fun _ _ _ h => h) (Or.inr ⟨by rfl, rfl⟩) ?_ ?_
             rotate_left
             ·simp only [Act.put, List.setIfInBounds_toArray, List.set_cons_zero, List.set_cons_succ, i64_w, i32_w]
              rfl
             refine pure_ (i := 25) (N := some 109) (v := undef) (a' := ?_) (bmk 44 67108863) rfl rfl (any_of HT_.out (by kernel_rfl)) (fun _ _ _ h => h) (Or.inr ⟨by rfl, rfl⟩) ?_ ?_
             rotate_left
             ·simp only [Act.put, List.setIfInBounds_toArray, List.set_cons_zero, List.set_cons_succ, i64_w, i32_w]
              rfl
             refine pure_ (i := 26) (N := some 110) (v := undef) (a' := ?_) (bmk 44 134217727) rfl rfl (any_of HT_.out (by kernel_rfl)) (fun _ _ _ h => h) (Or.inr ⟨by rfl, rfl⟩) ?_ ?_
             rotate_left
             ·simp only [Act.put, List.setIfInBounds_toArray, List.set_cons_zero, List.set_cons_succ, i64_w, i32_w]
              rfl
             refine pure_ (i := 27) (N := some 111) (v := ?_) (a' := ?_) (bmk 44 268435455) rfl rfl (any_of HT_.out (by kernel_rfl)) (fun _ _ _ h => h) (Or.inl ⟨by rfl, ?_⟩) ?_ ?_
             rotate_left
             ·intro w'
              go_simp
              with_reducible rfl
             rotate_left
             ·simp only [Act.put, List.setIfInBounds_toArray, List.set_cons_zero, List.set_cons_succ, i64_w, i32_w]
              rfl
             refine pure_ (i := 28) (N := some 112) (v := ?_) (a' := ?_) (bmk 44 536870911) rfl rfl (any_of HT_.out (by kernel_rfl)) (fun _ _ _ h => h) (Or.inl ⟨by rfl, ?_⟩) ?_ ?_
             rotate_left
             ·intro w'
              go_simp
              with_reducible rfl
             rotate_left
             ·simp only [Act.put, List.setIfInBounds_toArray, List.set_cons_zero, List.set_cons_succ, i64_w, i32_w]
              rfl
             refine pure_ (i := 29) (N := some 113) (v := undef) (a' := ?_) (bmk 44 1073741823) rfl rfl (any_of HT_.out (by kernel_rfl)) (fun _ _ _ h => h) (Or.inr ⟨by rfl, rfl⟩) ?_ ?_
             rotate_left
             ·simp only [Act.put, List.setIfInBounds_toArray, List.set_cons_zero, List.set_cons_succ, i64_w, i32_w]
              rfl
             refine pure_ (i := 30) (N := some 114) (v := undef) (a' := ?_) (bmk 44 2147483647) rfl rfl (any_of HT_.out (by kernel_rfl)) (fun _ _ _ h => h) (Or.inr ⟨by rfl, rfl⟩) ?_ ?_
             rotate_left
             ·simp only [Act.put, List.setIfInBounds_toArray, List.set_cons_zero, List.set_cons_succ, i64_w, i32_w]
              rfl
             refine pure_ (i := 31) (N := some 115) (v := undef) (a' := ?_) (bmk 44 4294967295) rfl rfl (any_of HT_.out (by kernel_rfl)) (fun _ _ _ h => h) (Or.inr ⟨by rfl, rfl⟩) ?_ ?_
             rotate_left
             ·simp only [Act.put, List.setIfInBounds_toArray, List.set_cons_zero, List.set_cons_succ, i64_w, i32_w]
              rfl
             refine pure_ (i := 32) (N := some 116) (v := undef) (a' := ?_) (bmk 44 8589934591) rfl rfl (any_of HT_.out (by kernel_rfl)) (fun _ _ _ h => h) (Or.inr ⟨by rfl, rfl⟩) ?_ ?_
             rotate_left
             ·simp only [Act.put, List.setIfInBounds_toArray, List.set_cons_zero, List.set_cons_succ, i64_w, i32_w]
              rfl
             refine pure_ (i := 33) (N := some 117) (v := undef) (a' := ?_) (bmk 44 17179869183) rfl rfl (any_of HT_.out (by kernel_rfl)) (fun _ _ _ h => h) (Or.inr ⟨by rfl, rfl⟩) ?_ ?_
             rotate_left
             ·simp only [Act.put, List.setIfInBounds_toArray, List.set_cons_zero, List.set_cons_succ, i64_w, i32_w]
              rfl
             refine pure_ (i := 34) (N := some 118) (v := undef) (a' := ?_) (bmk 44 34359738367) rfl rfl (any_of HT_.out (by kernel_rfl)) (fun _ _ _ h => h) (Or.inr ⟨by rfl, rfl⟩) ?_ ?_
             rotate_left
             ·simp only [Act.put, List.setIfInBounds_toArray, List.set_cons_zero, List.set_cons_succ, i64_w, i32_w]
              rfl
             refine pure_ (i := 35) (N := some 119) (v := undef) (a' := ?_) (bmk 44 68719476735) rfl rfl (any_of HT_.out (by kernel_rfl)) (fun _ _ _ h => h) (Or.inr ⟨by rfl, rfl⟩) ?_ ?_
             rotate_left
             ·simp only [Act.put, List.setIfInBounds_toArray, List.set_cons_zero, List.set_cons_succ, i64_w, i32_w]
              rfl
             refine pure_ (i := 36) (N := some 120) (v := undef) (a' := ?_) (bmk 44 137438953471) rfl rfl (any_of HT_.out (by kernel_rfl)) (fun _ _ _ h => h) (Or.inr ⟨by rfl, rfl⟩) ?_ ?_
             rotate_left
             ·simp only [Act.put, List.setIfInBounds_toArray, List.set_cons_zero, List.set_cons_succ, i64_w, i32_w]
              rfl
             refine pure_ (i := 37) (N := some 121) (v := undef) (a' := ?_) (bmk 44 274877906943) rfl rfl (any_of HT_.out (by kernel_rfl)) (fun _ _ _ h => h) (Or.inr ⟨by rfl, rfl⟩) ?_ ?_
             rotate_left
             ·simp only [Act.put, List.setIfInBounds_toArray, List.set_cons_zero, List.set_cons_succ, i64_w, i32_w]
              rfl
             refine pure_ (i := 38) (N := some 122) (v := undef) (a' := ?_) (bmk 44 549755813887) rfl rfl (any_of HT_.out (by kernel_rfl)) (fun _ _ _ h => h) (Or.inr ⟨by rfl, rfl⟩) ?_ ?_
             rotate_left
             ·simp only [Act.put, List.setIfInBounds_toArray, List.set_cons_zero, List.set_cons_succ, i64_w, i32_w]
              rfl
             refine pure_ (i := 39) (N := some 123) (v := undef) (a' := ?_) (bmk 44 1099511627775) rfl rfl (any_of HT_.out (by kernel_rfl)) (fun _ _ _ h => h) (Or.inr ⟨by rfl, rfl⟩) ?_ ?_
             rotate_left
             ·simp only [Act.put, List.setIfInBounds_toArray, List.set_cons_zero, List.set_cons_succ, i64_w, i32_w]
              rfl
             refine pure_ (i := 40) (N := some 124) (v := undef) (a' := ?_) (bmk 44 2199023255551) rfl rfl (any_of HT_.out (by kernel_rfl)) (fun _ _ _ h => h) (Or.inr ⟨by rfl, rfl⟩) ?_ ?_
             rotate_left
             ·simp only [Act.put, List.setIfInBounds_toArray, List.set_cons_zero, List.set_cons_succ, i64_w, i32_w]
              rfl
             refine pure_ (i := 41) (N := some 125) (v := undef) (a' := ?_) (bmk 44 4398046511103) rfl rfl (any_of HT_.out (by kernel_rfl)) (fun _ _ _ h => h) (Or.inr ⟨by rfl, rfl⟩) ?_ ?_
             rotate_left
             ·simp only [Act.put, List.setIfInBounds_toArray, List.set_cons_zero, List.set_cons_succ, i64_w, i32_w]
              rfl
             refine pure_ (i := 42) (N := some 126) (v := undef) (a' := ?_) (bmk 44 8796093022207) rfl rfl (any_of HT_.out (by kernel_rfl)) (fun _ _ _ h => h) (Or.inr ⟨by rfl, rfl⟩) ?_ ?_
             rotate_left
             ·simp only [Act.put, List.setIfInBounds_toArray, List.set_cons_zero, List.set_cons_succ, i64_w, i32_w]
              rfl
             refine pure_ (i := 43) (N := some 127) (v := ?_) (a' := ?_) (bmk 44 17592186044415) rfl rfl (any_of HT_.out (by kernel_rfl)) (fun _ _ _ h => h) (Or.inl ⟨by rfl, ?_⟩) ?_ ?_
             rotate_left
             ·intro w'
              go_simp
              with_reducible rfl
             rotate_left
             ·simp only [Act.put, List.setIfInBounds_toArray, List.set_cons_zero, List.set_cons_succ, i64_w, i32_w]
              rfl
             refine done_ (done_of HT_.out (by kernel_rfl)) ?_
             try go_wp2
             go_ret
             exact ⟨by first | rfl | (simp [errW_none, errW_some] <;> rfl) | (simp [*, errW_none, errW_some] <;> rfl), by repeat (first | (with_reducible first | exact HB.out | apply below_alloc | apply pw_below_drewN | apply below_drew1 | refine below_set ?_ GE136.out | refine below_set ?_ GE137.out) | exact HB.out)⟩
           ·rw [if_neg c113] at H
            exact absurd H (by simp)
          ·rw [if_neg c112] at H
           exact absurd H (by simp)
         ·rw [if_neg c111] at H
          have c111b0 : decide (x8_3 < (l0_1.length : Int)) = false := decide_eq_false c111
          clear c111
          obtain rfl := Option.some.inj H
          have hnb130 := NB136_137.out
          have hnc130 := NB137_136.out
          obtain ⟨hcz131_0, hcz131_1, hfz131_0, hfz131_1⟩ := bc2 BK136.out
          go_wp2
          go_ret
          exact ⟨by first | rfl | (simp [errW_none, errW_some] <;> rfl) | (simp [*, errW_none, errW_some] <;> rfl), by repeat (first | (with_reducible first | exact HB.out | apply below_alloc | apply pw_below_drewN | apply below_drew1 | refine below_set ?_ GE136.out | refine below_set ?_ GE137.out) | exact HB.out)⟩

end Go.Proofs.Ytlkbdoejeomlmaa.PFnExactSameSurface
