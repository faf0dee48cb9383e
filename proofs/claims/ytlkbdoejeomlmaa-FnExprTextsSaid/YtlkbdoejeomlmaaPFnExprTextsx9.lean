/- Written by a program of this session out of Lean's print of the translation: what the calls of these Go functions come to, in plain Lean. No condition. -/
import Derived.Test.YtlkbdoejeomlmaaPFnExprTextsx0
import Derived.Test.YtlkbdoejeomlmaaPFnExprTextsx7
import Derived.Test.YtlkbdoejeomlmaaPFnExprTextsx8
namespace Go.Proofs.Ytlkbdoejeomlmaa.PFnExprTexts
open Go.RowKit Go.Proofs.YtlkbdoejeomlmaaW.PrintWords Go.Proofs.YtlkbdoejeomlmaaW.PrintLast Go.Proofs.YtlkbdoejeomlmaaW.PrintMore
attribute [local go_sem] max2_int min2_int max_two min_two max_three min_three max_four min_four   -- for this text's walks alone
set_option linter.unusedVariables false
set_option linter.unusedSimpArgs false

/-! ### spec_ExprText: function 18 -/
mutual
def spec_ExprText.l0 : Nat → ByteArray → Int → List (S32) → Option (ByteArray × Bool)
  | 0, _, _, _ => none
  | k + 1, x4, x5, x269000 => if x5 < (x269000.length : Int) then (if 0 ≤ x5 then ((some (([((rd_T32 x269000 x5).f0) % 256] : List Int) : List Int)).bind fun y273 => (if x4.size + (strOfNums y273).size ≤ 9223372036854775807 then ((spec_l01Var.f k ((rd_T32 x269000 x5).f1)).bind fun t276 => (if (x4 ++ (strOfNums y273)).size + t276.size ≤ 9223372036854775807 then ((spec_l16Short.f k ((rd_T32 x269000 x5).f2)).bind fun t277 => (if ((x4 ++ (strOfNums y273)) ++ t276).size + t277.size ≤ 9223372036854775807 then (spec_ExprText.l1 k (((x4 ++ (strOfNums y273)) ++ t276) ++ t277) x5 0 x269000 ((rd_T32 x269000 x5).f0) ((rd_T32 x269000 x5).f1) ((rd_T32 x269000 x5).f2) ((rd_T32 x269000 x5).f3)) else (none))) else (none))) else (none))) else (none)) else (some (x4, true))
def spec_ExprText.l1 : Nat → ByteArray → Int → Int → List (S32) → Int → Int → ByteArray → List Int → Option (ByteArray × Bool)
  | 0, _, _, _, _, _, _, _, _ => none
  | k + 1, x4, x5, x7, x269000, x273000, x273001, x273002, x273003 => if x7 < (x273003.length : Int) then (if 0 ≤ x7 then ((some (([(rd x273003 x7) % 256] : List Int) : List Int)).bind fun y279 => (if x4.size + (strOfNums y279).size ≤ 9223372036854775807 then (spec_ExprText.l1 k (x4 ++ (strOfNums y279)) x5 (wrap64 (x7 + 1)) x269000 x273000 x273001 x273002 x273003) else (none))) else (none)) else (spec_ExprText.l0 k x4 (wrap64 (x5 + 1)) x269000)
end
def spec_ExprText.f (k : Nat) (l0_0 : List (S32)) : Option (ByteArray × Bool) := (spec_ExprOk.f k l0_0).bind fun t269 => (if t269 = true then ((spec_l01Var.f k (l0_0.length : Int)).bind fun t270 => (spec_ExprText.l0 k t270 0 l0_0)) else (some ((⟨#[]⟩ : ByteArray), false)))
theorem spec_ExprText.mono_l : ∀ k, (∀ y0 y1 y2, LeO (spec_ExprText.l0 k y0 y1 y2) (spec_ExprText.l0 (k + 1) y0 y1 y2)) ∧ (∀ y0 y1 y2 y3 y4 y5 y6 y7, LeO (spec_ExprText.l1 k y0 y1 y2 y3 y4 y5 y6 y7) (spec_ExprText.l1 (k + 1) y0 y1 y2 y3 y4 y5 y6 y7))
  | 0 => ⟨fun _ _ _ r h => by simp [spec_ExprText.l0] at h, fun _ _ _ _ _ _ _ _ r h => by simp [spec_ExprText.l1] at h⟩
  | k + 1 => by
    obtain ⟨ih0, ih1⟩ := spec_ExprText.mono_l k
    refine ⟨?_, ?_⟩
    · intro y0 y1 y2
      unfold spec_ExprText.l0
      repeat' first
      | (with_reducible exact ih0 _ _ _)
      | (with_reducible exact ih1 _ _ _ _ _ _ _ _)
      | (with_reducible exact spec_ExprOk.mono _ _)
      | (with_reducible exact spec_l01Var.mono _ _)
      | (with_reducible exact spec_l16Short.mono _ _)
      | (with_reducible exact LeO.refl _)
      | (with_reducible exact LeO.none _)
      | (with_reducible refine LeO.ite ?_ ?_)
      | (with_reducible refine LeO.bind ?_ (fun _ => ?_))
      | exact ih0 _ _ _
      | exact ih1 _ _ _ _ _ _ _ _
      | exact spec_ExprOk.mono _ _
      | exact spec_l01Var.mono _ _
      | exact spec_l16Short.mono _ _
      | exact LeO.none _
      | refine LeO.ite ?_ ?_
      | refine LeO.bind ?_ (fun _ => ?_)
    · intro y0 y1 y2 y3 y4 y5 y6 y7
      unfold spec_ExprText.l1
      repeat' first
      | (with_reducible exact ih0 _ _ _)
      | (with_reducible exact ih1 _ _ _ _ _ _ _ _)
      | (with_reducible exact spec_ExprOk.mono _ _)
      | (with_reducible exact spec_l01Var.mono _ _)
      | (with_reducible exact spec_l16Short.mono _ _)
      | (with_reducible exact LeO.refl _)
      | (with_reducible exact LeO.none _)
      | (with_reducible refine LeO.ite ?_ ?_)
      | (with_reducible refine LeO.bind ?_ (fun _ => ?_))
      | exact ih0 _ _ _
      | exact ih1 _ _ _ _ _ _ _ _
      | exact spec_ExprOk.mono _ _
      | exact spec_l01Var.mono _ _
      | exact spec_l16Short.mono _ _
      | exact LeO.none _
      | refine LeO.ite ?_ ?_
      | refine LeO.bind ?_ (fun _ => ?_)
theorem spec_ExprText.mono : ∀ a0 k, LeO (spec_ExprText.f k a0) (spec_ExprText.f (k + 1) a0) := by
  intro a0 k
  obtain ⟨ih0, ih1⟩ := spec_ExprText.mono_l k
  unfold spec_ExprText.f
  repeat' first
      | (with_reducible exact ih0 _ _ _)
      | (with_reducible exact ih1 _ _ _ _ _ _ _ _)
      | (with_reducible exact spec_ExprOk.mono _ _)
      | (with_reducible exact spec_l01Var.mono _ _)
      | (with_reducible exact spec_l16Short.mono _ _)
      | (with_reducible exact LeO.refl _)
      | (with_reducible exact LeO.none _)
      | (with_reducible refine LeO.ite ?_ ?_)
      | (with_reducible refine LeO.bind ?_ (fun _ => ?_))
      | exact ih0 _ _ _
      | exact ih1 _ _ _ _ _ _ _ _
      | exact spec_ExprOk.mono _ _
      | exact spec_l01Var.mono _ _
      | exact spec_l16Short.mono _ _
      | exact LeO.none _
      | refine LeO.ite ?_ ?_
      | refine LeO.bind ?_ (fun _ => ?_)
def spec_ExprText.T8 : Bool × List (List Nat × List Nat) := (true, [([], []), ([], []), ([1], [1]), ([2], [2]), ([3], [3]), ([4], [4]), ([0, 5], [0, 5]), ([], []), ([7], [7]), ([8], [8]), ([6, 9], [6, 9]), ([], []), ([11], [11]), ([12, 9], [12]), ([10, 13], [10, 13]), ([14, 13, 0, 1, 2, 3, 4, 5, 6, 7, 8, 9, 10, 11, 12, 13, 14], [0, 14])])
def spec_ExprText.B8 : List Nat := [0, 0, 2, 6, 14, 30, 63, 0, 128, 384, 1023, 0, 2048, 7040, 16383, 32767]
theorem spec_ExprText.tab8 : rtab .any (opsOf Try.f18 8) = spec_ExprText.T8 := by kernel_rfl
theorem spec_ExprText.bits8 : waitsOk spec_ExprText.T8.2 spec_ExprText.B8 = true := by kernel_rfl
set_option maxHeartbeats 8000000 in
set_option maxRecDepth 100000 in
theorem spec_ExprText.calls (k : Nat) (A0_0 : Option Addr) (c0_0 : Nat) (l0_0 : List (S32)) (r1 : ByteArray) (r2 : Bool) (w : World) (hr0_0 : Kd.C k32 w A0_0 l0_0.length l0_0) (hc0_0 : l0_0.length ≤ c0_0) (h : spec_ExprText.f k l0_0 = some (r1, r2)) :
    Calls Try.prog 18 #[.agg #[.slice A0_0 l0_0.length c0_0]] w fun e w' => e = .returned (.tuple #[.string r1, .bool r2]) ∧ Below w.heap.size w w' := by
  have hu26 := Try.underlying26
  have hu32 := Try.underlying32
  have HR0_0 := Aside0.mk hr0_0
  have HC0_0 := Aside0.mk hc0_0
  clear hr0_0 hc0_0
  have HB := Aside0.mk (Below.refl w.heap.size w)
  have H : ((spec_ExprOk.f k l0_0).bind fun t269 => (if t269 = true then ((spec_l01Var.f k (l0_0.length : Int)).bind fun t270 => (spec_ExprText.l0 k t270 0 l0_0)) else (some ((⟨#[]⟩ : ByteArray), false)))) = some (r1, r2) := h
  clear h
  replace H := Option.bind_eq_some_iff.mp H
  obtain ⟨t269, A20, H⟩ := H
  replace H : (if t269 = true then ((spec_l01Var.f k (l0_0.length : Int)).bind fun t270 => (spec_ExprText.l0 k t270 0 l0_0)) else (some ((⟨#[]⟩ : ByteArray), false))) = some (r1, r2) := H
  have A2 := Aside0.mk A20
  clear A20
  by_cases c3 : t269 = true
  · subst c3
    have H1 : ((spec_l01Var.f k (l0_0.length : Int)).bind fun t270 => (spec_ExprText.l0 k t270 0 l0_0)) = some (r1, r2) := by rw [if_pos rfl] at H; exact H
    clear H
    have H := H1
    clear H1
    replace H := Option.bind_eq_some_iff.mp H
    obtain ⟨t270, A40, H⟩ := H
    replace H : (spec_ExprText.l0 k t270 0 l0_0) = some (r1, r2) := H
    have A4 := Aside0.mk A40
    clear A40
    have H' := Aside0.mk H
    clear H
    go_enter Try.func18, Try.ntmps18
    go_wp2_with (first | ((with_reducible refine gate_dst (N := 1) rfl ?_); refine box_event ?hg (N := 1) ?hd (cs := #[.slice A0_0 l0_0.length c0_0]) (t := 26) ?hr ?_; (case hd => rfl); (case hg => rfl); (case hr => first | (go_simp; done) | (go_simp; rfl)); intro gb268 hg w5 hbox hb; have n0_ := Aside0.mk (below_step bw hb); have n1_ := Aside0.mk (hbox); have n2_ := Aside0.mk ((bz bw hg : w.heap.size ≤ gb268)); have n3_ := Aside0.mk ((bz bw hg : w.heap.size ≤ gb268)); clear HB; have HB := n0_; have BK268 := n1_; have GW268 := n2_; have GE268 := n3_; clear n0_ n1_ n2_ n3_; clear hb hbox hg; obtain ⟨hcz6_0, hfz6_0⟩ := bc1 BK268.out) | ((with_reducible refine gate_callee (f := 20) rfl ?_); refine goesL_ (some 9) rfl rfl Try.func20 (by kernel_rfl) rfl #[.agg #[.slice A0_0 l0_0.length c0_0]] rfl (by (try simp only [List.map_toArray, List.map_cons, List.map_nil]); first | done | rfl | (simp only [List.length_drop, List.length_take]; rfl)) ?_; (with_reducible refine (spec_ExprOk.calls k _ _ l0_0 true _ ?side1 ?side2 A2.out).mono ?_); (case side1 => exact kb); (case side2 => exact HC0_0.out); rintro e w7 ⟨rfl, hb⟩; refine ⟨_, rfl, ?_⟩; have n0_ := Aside0.mk (blk_below (g := gb268) (o := .cells #[.slice A0_0 l0_0.length c0_0] 26 (0, 0)) bx hb); have n1_ := Aside0.mk (below_step bw hb); clear BK268; clear HB; have BK268 := n0_; have HB := n1_; clear n0_ n1_; (try clear hb); (try clear hb2); (try clear hk); (try clear hi); obtain ⟨hcz8_0, hfz8_0⟩ := bc1 BK268.out) | ((with_reducible refine gate_callee (f := 67) rfl ?_); refine goesL_ (some 14) rfl rfl Try.func67 (by kernel_rfl) rfl #[.int .i64 (l0_0.length : Int)] rfl (by (try simp only [List.map_toArray, List.map_cons, List.map_nil]); first | done | rfl | (simp only [List.length_drop, List.length_take]; rfl)) ?_; (with_reducible refine (spec_l01Var.calls k (l0_0.length : Int) t270 _ A4.out).mono ?_); rintro e w9 ⟨rfl, hb⟩; refine ⟨_, rfl, ?_⟩; have n0_ := Aside0.mk (blk_below (g := gb268) (o := .cells #[.slice A0_0 l0_0.length c0_0] 26 (0, 0)) bx hb); have n1_ := Aside0.mk (below_step bw hb); clear BK268; clear HB; have BK268 := n0_; have HB := n1_; clear n0_ n1_; (try clear hb); (try clear hb2); (try clear hk); (try clear hi)))
    go_loopg [4, 5] k (fun kq v4 v5 w' => ∃ (x4_1 : ByteArray) (x5_1 : Int), v4 = .string x4_1 ∧ v5 = .int .i64 x5_1 ∧ Aside0 (spec_ExprText.l0 kq x4_1 x5_1 l0_0 = some (r1, r2)) ∧ Aside0 (kq ≤ k) ∧ Aside0 (w'.heap[gb268]? = some (.cells #[(.slice A0_0 l0_0.length c0_0)] 26 (0, 0))) ∧ Aside0 (Below w.heap.size w w'))
    case atStart => exact ⟨(t270), (0), (by first | rfl | (simp; done) | (simp [*]; done) | (simp [isE0, isE1]; done)), (by first | rfl | (simp; done) | (simp [*]; done) | (simp [isE0, isE1]; done)), H', ⟨Nat.le_refl _⟩, ⟨by (with_reducible repeat (first | refine blk_drewN ?_ _ | refine blk_drew ?_ | refine blk_alloc ?_ _)); exact BK268.out⟩, ⟨by repeat (first | (with_reducible first | exact HB.out | apply below_alloc | apply pw_below_drewN | apply below_drew1 | refine below_set ?_ GE268.out) | exact HB.out)⟩⟩
    case round =>
      clear H'
      try clear c1
      try clear c2
      try clear p2
      try clear c3
      try clear c6
      try clear hcz6_0
      try clear hcz8_0
      try clear hfz6_0
      try clear hfz8_0
      obtain ⟨x4_1, x5_1, rfl, rfl, HA, HK1, BK268, HB⟩ := hrel
      cases gk with
      | zero => exact absurd HA.out (by simp [spec_ExprText.l0])
      | succ k1 =>
        have H := HA.out
        clear HA
        simp only [spec_ExprText.l0] at H
        by_cases c10 : x5_1 < (l0_0.length : Int)
        · rw [if_pos c10] at H
          have c10b0 : decide (x5_1 < (l0_0.length : Int)) = true := decide_eq_true c10
          clear c10
          by_cases c11 : 0 ≤ x5_1
          · rw [if_pos c11] at H
            have c11b0 : decide (0 ≤ x5_1) = true := decide_eq_true c11
            clear c11
            obtain ⟨y273, hy273⟩ : ∃ y_ : List Int, y_ = (([((rd_T32 l0_0 x5_1).f0) % 256] : List Int)) := ⟨_, rfl⟩
            replace H : (if x4_1.size + (strOfNums y273).size ≤ 9223372036854775807 then ((spec_l01Var.f k1 ((rd_T32 l0_0 x5_1).f1)).bind fun t276 => (if (x4_1 ++ (strOfNums y273)).size + t276.size ≤ 9223372036854775807 then ((spec_l16Short.f k1 ((rd_T32 l0_0 x5_1).f2)).bind fun t277 => (if ((x4_1 ++ (strOfNums y273)) ++ t276).size + t277.size ≤ 9223372036854775807 then (spec_ExprText.l1 k1 (((x4_1 ++ (strOfNums y273)) ++ t276) ++ t277) x5_1 0 l0_0 ((rd_T32 l0_0 x5_1).f0) ((rd_T32 l0_0 x5_1).f1) ((rd_T32 l0_0 x5_1).f2) ((rd_T32 l0_0 x5_1).f3)) else (none))) else (none))) else (none)) = some (r1, r2) := by first | (rw [hy273]; with_reducible exact H) | (have H2_ := (Option.bind_some _ _).symm.trans H; rw [hy273]; with_reducible exact H2_) | (have H2_ := (Option.bind_some _ _).symm.trans H; with_reducible exact H2_) | with_reducible exact H | (rw [hy273]; exact H) | exact H
            have Ny273 := Aside0.mk hy273
            clear hy273
            by_cases c12 : x4_1.size + (strOfNums y273).size ≤ 9223372036854775807
            · rw [if_pos c12] at H
              have c12b0 := eq_true c12
              have c12b1 : decide (x4_1.size + (strOfNums y273).size ≤ 9223372036854775807) = true := decide_eq_true c12
              try have c12b2 : (9223372036854775807 < x4_1.size + (strOfNums y273).size) = False := eq_false (Nat.not_lt.2 c12)
              replace H := Option.bind_eq_some_iff.mp H
              obtain ⟨t276, A130, H⟩ := H
              replace H : (if (x4_1 ++ (strOfNums y273)).size + t276.size ≤ 9223372036854775807 then ((spec_l16Short.f k1 ((rd_T32 l0_0 x5_1).f2)).bind fun t277 => (if ((x4_1 ++ (strOfNums y273)) ++ t276).size + t277.size ≤ 9223372036854775807 then (spec_ExprText.l1 k1 (((x4_1 ++ (strOfNums y273)) ++ t276) ++ t277) x5_1 0 l0_0 ((rd_T32 l0_0 x5_1).f0) ((rd_T32 l0_0 x5_1).f1) ((rd_T32 l0_0 x5_1).f2) ((rd_T32 l0_0 x5_1).f3)) else (none))) else (none)) = some (r1, r2) := H
              have A13 := Aside0.mk A130
              clear A130
              by_cases c14 : (x4_1 ++ (strOfNums y273)).size + t276.size ≤ 9223372036854775807
              · rw [if_pos c14] at H
                have c14b0 := eq_true c14
                have c14b1 : decide ((x4_1 ++ (strOfNums y273)).size + t276.size ≤ 9223372036854775807) = true := decide_eq_true c14
                try (have c14s := c14; simp only [ByteArray.size_append] at c14s; replace c14s := eq_false (Nat.not_lt.2 c14s))
                try have c14b2 : (9223372036854775807 < (x4_1 ++ (strOfNums y273)).size + t276.size) = False := eq_false (Nat.not_lt.2 c14)
                replace H := Option.bind_eq_some_iff.mp H
                obtain ⟨t277, A150, H⟩ := H
                replace H : (if ((x4_1 ++ (strOfNums y273)) ++ t276).size + t277.size ≤ 9223372036854775807 then (spec_ExprText.l1 k1 (((x4_1 ++ (strOfNums y273)) ++ t276) ++ t277) x5_1 0 l0_0 ((rd_T32 l0_0 x5_1).f0) ((rd_T32 l0_0 x5_1).f1) ((rd_T32 l0_0 x5_1).f2) ((rd_T32 l0_0 x5_1).f3)) else (none)) = some (r1, r2) := H
                have A15 := Aside0.mk A150
                clear A150
                by_cases c16 : ((x4_1 ++ (strOfNums y273)) ++ t276).size + t277.size ≤ 9223372036854775807
                · rw [if_pos c16] at H
                  have c16b0 := eq_true c16
                  have c16b1 : decide (((x4_1 ++ (strOfNums y273)) ++ t276).size + t277.size ≤ 9223372036854775807) = true := decide_eq_true c16
                  try (have c16s := c16; simp only [ByteArray.size_append] at c16s; replace c16s := eq_false (Nat.not_lt.2 c16s))
                  try have c16b2 : (9223372036854775807 < ((x4_1 ++ (strOfNums y273)) ++ t276).size + t277.size) = False := eq_false (Nat.not_lt.2 c16)
                  have H' := Aside0.mk H
                  clear H
                  obtain ⟨hcz17_0, hfz17_0⟩ := bc1 BK268.out
                  have p271 : 0 ≤ (x5_1 : Int) := oa
                  have q271 : x5_1 < (l0_0.length : Int) := oa
                  obtain ⟨ad271, A271_3, c271_3, e271, hx271_0, hx271_1, hx271_2, hx271_3, hl271_3, hi271_3⟩ := at_T32 HR0_0.out x5_1 p271 q271
                  cases e271
                  replace hx271_0 := hbc HB.out hx271_0
                  replace hx271_1 := hbc HB.out hx271_1
                  replace hx271_2 := hbc HB.out hx271_2
                  replace hx271_3 := hbc HB.out hx271_3
                  have HR271_3 := Aside0.mk hi271_3
                  have HC271_3 := Aside0.mk hl271_3
                  clear hi271_3 hl271_3
                  replace p271 := eq_true p271
                  replace q271 := eq_true q271
                  try go_wp2_with (first | ((with_reducible refine gate_dst (N := 6) rfl ?_); refine box_event ?hg (N := 6) ?hd (cs := #[.int .i64 0, .int .i64 0, .string (⟨#[]⟩ : ByteArray), .slice none 0 0]) (t := 32) ?hr ?_; (case hd => rfl); (case hg => rfl); (case hr => first | (go_simp; done) | (go_simp; rfl)); intro gb272 hg w18 hbox hb; have n0_ := Aside0.mk (blk_below (g := gb268) (o := .cells #[.slice (some ad271) l0_0.length c0_0] 26 (0, 0)) bx hb); have n1_ := Aside0.mk (below_step bw hb); have n2_ := Aside0.mk (hbox); have n3_ := Aside0.mk ((bz bw hg : w.heap.size ≤ gb272)); have n4_ := Aside0.mk ((bz bw hg : w.heap.size ≤ gb272)); have n5_ := Aside0.mk ((bl bx hg : gb268 ≠ gb272)); have n6_ := Aside0.mk ((bl' bx hg : gb272 ≠ gb268)); clear BK268; clear HB; have BK268 := n0_; have HB := n1_; have BK272 := n2_; have GW272 := n3_; have GE272 := n4_; have NB268_272 := n5_; have NB272_268 := n6_; clear n0_ n1_ n2_ n3_ n4_ n5_ n6_; clear hb hbox hg; have hnb19 := NB272_268.out; have hnc19 := NB268_272.out; obtain ⟨hcz20_0, hcz20_1, hcz20_2, hcz20_3, hfz20_0, hfz20_1, hfz20_2, hfz20_3⟩ := bc4 BK272.out))
                  have n0_ : Aside0 (((((w18.setCell ⟨gb272, 0, none⟩ (.int .i64 ((rd_T32 l0_0 x5_1).f0))).setCell ⟨gb272, 1, none⟩ (.int .i64 ((rd_T32 l0_0 x5_1).f1))).setCell ⟨gb272, 2, none⟩ (.string ((rd_T32 l0_0 x5_1).f2))).setCell ⟨gb272, 3, none⟩ (.slice A271_3 ((rd_T32 l0_0 x5_1).f3).length c271_3)).heap[gb268]? = some (.cells #[.slice (some ad271) l0_0.length c0_0] 26 (0, 0))) := ⟨by (with_reducible repeat (first | refine blk_drewN ?_ _ | refine blk_drew ?_ | refine blk_alloc ?_ _)); refine blk_far ?_ NB268_272.out _; (with_reducible repeat (first | refine blk_drewN ?_ _ | refine blk_drew ?_ | refine blk_alloc ?_ _)); refine blk_far ?_ NB268_272.out _; (with_reducible repeat (first | refine blk_drewN ?_ _ | refine blk_drew ?_ | refine blk_alloc ?_ _)); refine blk_far ?_ NB268_272.out _; (with_reducible repeat (first | refine blk_drewN ?_ _ | refine blk_drew ?_ | refine blk_alloc ?_ _)); refine blk_far ?_ NB268_272.out _; (with_reducible repeat (first | refine blk_drewN ?_ _ | refine blk_drew ?_ | refine blk_alloc ?_ _)); exact BK268.out⟩
                  have n1_ : Aside0 (((((w18.setCell ⟨gb272, 0, none⟩ (.int .i64 ((rd_T32 l0_0 x5_1).f0))).setCell ⟨gb272, 1, none⟩ (.int .i64 ((rd_T32 l0_0 x5_1).f1))).setCell ⟨gb272, 2, none⟩ (.string ((rd_T32 l0_0 x5_1).f2))).setCell ⟨gb272, 3, none⟩ (.slice A271_3 ((rd_T32 l0_0 x5_1).f3).length c271_3)).heap[gb272]? = some (.cells #[.int .i64 ((rd_T32 l0_0 x5_1).f0), .int .i64 ((rd_T32 l0_0 x5_1).f1), .string ((rd_T32 l0_0 x5_1).f2), .slice A271_3 ((rd_T32 l0_0 x5_1).f3).length c271_3] 32 (0, 0))) := ⟨by (with_reducible repeat (first | refine blk_drewN ?_ _ | refine blk_drew ?_ | refine blk_alloc ?_ _)); refine blk_put (cs := #[.int .i64 ((rd_T32 l0_0 x5_1).f0), .int .i64 ((rd_T32 l0_0 x5_1).f1), .string ((rd_T32 l0_0 x5_1).f2), .slice none 0 0]) ?_ 3 _ rfl; (with_reducible repeat (first | refine blk_drewN ?_ _ | refine blk_drew ?_ | refine blk_alloc ?_ _)); refine blk_put (cs := #[.int .i64 ((rd_T32 l0_0 x5_1).f0), .int .i64 ((rd_T32 l0_0 x5_1).f1), .string (⟨#[]⟩ : ByteArray), .slice none 0 0]) ?_ 2 _ rfl; (with_reducible repeat (first | refine blk_drewN ?_ _ | refine blk_drew ?_ | refine blk_alloc ?_ _)); refine blk_put (cs := #[.int .i64 ((rd_T32 l0_0 x5_1).f0), .int .i64 0, .string (⟨#[]⟩ : ByteArray), .slice none 0 0]) ?_ 1 _ rfl; (with_reducible repeat (first | refine blk_drewN ?_ _ | refine blk_drew ?_ | refine blk_alloc ?_ _)); refine blk_put (cs := #[.int .i64 0, .int .i64 0, .string (⟨#[]⟩ : ByteArray), .slice none 0 0]) ?_ 0 _ rfl; (with_reducible repeat (first | refine blk_drewN ?_ _ | refine blk_drew ?_ | refine blk_alloc ?_ _)); exact BK272.out⟩
                  have n2_ : Aside0 (Below w.heap.size w ((((w18.setCell ⟨gb272, 0, none⟩ (.int .i64 ((rd_T32 l0_0 x5_1).f0))).setCell ⟨gb272, 1, none⟩ (.int .i64 ((rd_T32 l0_0 x5_1).f1))).setCell ⟨gb272, 2, none⟩ (.string ((rd_T32 l0_0 x5_1).f2))).setCell ⟨gb272, 3, none⟩ (.slice A271_3 ((rd_T32 l0_0 x5_1).f3).length c271_3))) := ⟨by repeat (first | (with_reducible first | exact HB.out | apply below_alloc | apply pw_below_drewN | apply below_drew1 | refine below_set ?_ GE268.out | refine below_set ?_ GE272.out) | exact HB.out)⟩
                  (try clear BK268)
                  (try clear BK272)
                  (try clear HB)
                  generalize ((((w18.setCell ⟨gb272, 0, none⟩ (.int .i64 ((rd_T32 l0_0 x5_1).f0))).setCell ⟨gb272, 1, none⟩ (.int .i64 ((rd_T32 l0_0 x5_1).f1))).setCell ⟨gb272, 2, none⟩ (.string ((rd_T32 l0_0 x5_1).f2))).setCell ⟨gb272, 3, none⟩ (.slice A271_3 ((rd_T32 l0_0 x5_1).f3).length c271_3)) = w21 at n0_ n1_ n2_ ⊢
                  have BK268 := n0_
                  have BK272 := n1_
                  have HB := n2_
                  clear n0_ n1_ n2_
                  have n0_ := Aside0.mk (blk_drew BK268.out)
                  have n1_ := Aside0.mk (blk_drew BK272.out)
                  have n2_ := Aside0.mk (below_drew1 HB.out)
                  clear BK268
                  clear BK272
                  clear HB
                  have BK268 := n0_
                  have BK272 := n1_
                  have HB := n2_
                  clear n0_ n1_ n2_
                  refine start_ (n := 16) (S := fun w' => w'.cell? ⟨gb272, 0, none⟩ = some (.int .i64 ((rd_T32 l0_0 x5_1).f0)) ∧ w'.cell? ⟨gb272, 1, none⟩ = some (.int .i64 ((rd_T32 l0_0 x5_1).f1)) ∧ w'.cell? ⟨gb272, 2, none⟩ = some (.string ((rd_T32 l0_0 x5_1).f2)) ∧ w'.cell? ⟨gb272, 3, none⟩ = some (.slice A271_3 ((rd_T32 l0_0 x5_1).f3).length c271_3)) (ds := []) #[false, false, false, false, false, false, false, false, false, false, false, false, false, false, false, false] (by kernel_rfl) rfl rfl ⟨(blk_cell BK272.out 0).trans rfl, (blk_cell BK272.out 1).trans rfl, (blk_cell BK272.out 2).trans rfl, (blk_cell BK272.out 3).trans rfl⟩ (fun hHeld => ?_); refine with_tabW spec_ExprText.tab8 spec_ExprText.bits8 (fun HT_ HW_ => ?_)
                  generalize w21.drew = w22 at BK268 BK272 HB hHeld ⊢
                  refine pure_ (i := 0) (N := some 27) (v := ?_) (a' := ?_) (bmk 16 1) rfl rfl (any_of HT_.out (by kernel_rfl)) (fun _ _ _ h => h) (Or.inl ⟨by rfl, ?_⟩) ?_ ?_
                  rotate_left
                  · intro w'
                    go_simp
                    with_reducible rfl
                  rotate_left
                  · simp only [Act.put, List.setIfInBounds_toArray, List.set_cons_zero, List.set_cons_succ, i64_w, i32_w]
                    rfl
                  refine pure_ (i := 1) (N := some 28) (v := ?_) (a' := ?_) (bmk 16 3) rfl rfl (any_of HT_.out (by kernel_rfl)) (fun _ _ _ h => h) (Or.inl ⟨by rfl, ?_⟩) ?_ ?_
                  rotate_left
                  · intro w'
                    go_simp
                    with_reducible rfl
                  rotate_left
                  · simp only [Act.put, List.setIfInBounds_toArray, List.set_cons_zero, List.set_cons_succ, i64_w, i32_w]
                    rfl
                  refine pure_ (i := 7) (N := some 34) (v := ?_) (a' := ?_) (bmk 16 131) rfl rfl (any_of HT_.out (by kernel_rfl)) (fun _ _ _ h => h) (Or.inl ⟨by rfl, ?_⟩) ?_ ?_
                  rotate_left
                  · intro w'
                    go_simp
                    with_reducible rfl
                  rotate_left
                  · simp only [Act.put, List.setIfInBounds_toArray, List.set_cons_zero, List.set_cons_succ, i64_w, i32_w]
                    rfl
                  refine pure_ (i := 11) (N := some 38) (v := ?_) (a' := ?_) (bmk 16 2179) rfl rfl (any_of HT_.out (by kernel_rfl)) (fun _ _ _ h => h) (Or.inl ⟨by rfl, ?_⟩) ?_ ?_
                  rotate_left
                  · intro w'
                    go_simp
                    with_reducible rfl
                  rotate_left
                  · simp only [Act.put, List.setIfInBounds_toArray, List.set_cons_zero, List.set_cons_succ, i64_w, i32_w]
                    rfl
                  refine take_ (i := 2) (N := some 29) (v := ?_) (a' := ?_) (bmk 16 2183) rfl rfl (take_ofW HT_.out HW_.out (by kernel_rfl)) (fun _ _ _ h => h) (Or.inl ⟨by rfl, ?_⟩) hHeld ?_ ?_
                  rotate_left
                  · rintro w' ⟨s0, s1, s2, s3⟩
                    go_simp
                    with_reducible rfl
                  rotate_left
                  · simp only [Act.put, List.setIfInBounds_toArray, List.set_cons_zero, List.set_cons_succ, i64_w, i32_w]
                    rfl
                  refine pure_ (i := 3) (N := some 30) (v := ?_) (a' := ?_) (bmk 16 2191) rfl rfl (any_of HT_.out (by kernel_rfl)) (fun _ _ _ h => h) (Or.inl ⟨by rfl, ?_⟩) ?_ ?_
                  rotate_left
                  · intro w'
                    go_simp
                    with_reducible rfl
                  rotate_left
                  · simp only [Act.put, List.setIfInBounds_toArray, List.set_cons_zero, List.set_cons_succ, i64_w, i32_w]
                    rfl
                  refine take_ (i := 8) (N := some 35) (v := ?_) (a' := ?_) (bmk 16 2447) rfl rfl (take_ofW HT_.out HW_.out (by kernel_rfl)) (fun _ _ _ h => h) (Or.inl ⟨by rfl, ?_⟩) hHeld ?_ ?_
                  rotate_left
                  · rintro w' ⟨s0, s1, s2, s3⟩
                    go_simp
                    with_reducible rfl
                  rotate_left
                  · simp only [Act.put, List.setIfInBounds_toArray, List.set_cons_zero, List.set_cons_succ, i64_w, i32_w]
                    rfl
                  refine take_ (i := 12) (N := some 39) (v := ?_) (a' := ?_) (bmk 16 6543) rfl rfl (take_ofW HT_.out HW_.out (by kernel_rfl)) (fun _ _ _ h => h) (Or.inl ⟨by rfl, ?_⟩) hHeld ?_ ?_
                  rotate_left
                  · rintro w' ⟨s0, s1, s2, s3⟩
                    go_simp
                    with_reducible rfl
                  rotate_left
                  · simp only [Act.put, List.setIfInBounds_toArray, List.set_cons_zero, List.set_cons_succ, i64_w, i32_w]
                    rfl
                  refine join_ (σ := Value) 2 #[true, true, true, true, true, true, true, true, true, true, true, true, true, true, false, false] (fun s_ => [(31, s_), (32, .string (strOfNums y273)), (36, .string t276), (40, .string t277), (33, .string (x4_1 ++ (strOfNums y273))), (37, .string ((x4_1 ++ (strOfNums y273)) ++ t276))]) (fun s_ w' => (w'.cell? ⟨gb272, 0, none⟩ = some (.int .i64 ((rd_T32 l0_0 x5_1).f0)) ∧ w'.cell? ⟨gb272, 1, none⟩ = some (.int .i64 ((rd_T32 l0_0 x5_1).f1)) ∧ w'.cell? ⟨gb272, 2, none⟩ = some (.string ((rd_T32 l0_0 x5_1).f2)) ∧ w'.cell? ⟨gb272, 3, none⟩ = some (.slice A271_3 ((rd_T32 l0_0 x5_1).f3).length c271_3)) ∧ (Kd.R (Kd.int .u8) 5 w' w.heap.size (fun _ => True) s_ y273) ∧ (w'.heap[gb268]? = some (.cells #[.slice (some ad271) l0_0.length c0_0] 26 (0, 0))) ∧ (w'.heap[gb272]? = some (.cells #[.int .i64 ((rd_T32 l0_0 x5_1).f0), .int .i64 ((rd_T32 l0_0 x5_1).f1), .string ((rd_T32 l0_0 x5_1).f2), .slice A271_3 ((rd_T32 l0_0 x5_1).f3).length c271_3] 32 (0, 0))) ∧ (Below w.heap.size w w')) ?_ ?_
                  rotate_left
                  · intro hJ4_5_9_13
                    refine join_ (σ := Value) 3 #[true, true, true, true, true, true, true, true, true, true, true, true, true, false, false, false] (fun s_ => [(31, s_), (32, .string (strOfNums y273)), (36, .string t276), (33, .string (x4_1 ++ (strOfNums y273))), (37, .string ((x4_1 ++ (strOfNums y273)) ++ t276))]) (fun s_ w' => (w'.cell? ⟨gb272, 0, none⟩ = some (.int .i64 ((rd_T32 l0_0 x5_1).f0)) ∧ w'.cell? ⟨gb272, 1, none⟩ = some (.int .i64 ((rd_T32 l0_0 x5_1).f1)) ∧ w'.cell? ⟨gb272, 2, none⟩ = some (.string ((rd_T32 l0_0 x5_1).f2)) ∧ w'.cell? ⟨gb272, 3, none⟩ = some (.slice A271_3 ((rd_T32 l0_0 x5_1).f3).length c271_3)) ∧ (Kd.R (Kd.int .u8) 5 w' w.heap.size (fun _ => True) s_ y273) ∧ (w'.heap[gb268]? = some (.cells #[.slice (some ad271) l0_0.length c0_0] 26 (0, 0))) ∧ (w'.heap[gb272]? = some (.cells #[.int .i64 ((rd_T32 l0_0 x5_1).f0), .int .i64 ((rd_T32 l0_0 x5_1).f1), .string ((rd_T32 l0_0 x5_1).f2), .slice A271_3 ((rd_T32 l0_0 x5_1).f3).length c271_3] 32 (0, 0))) ∧ (Below w.heap.size w w')) ?_ ?_
                    rotate_left
                    · intro hJ4_5_9
                      refine join_ (σ := Value) 5 #[true, true, true, true, true, false, false, true, true, true, false, true, true, true, false, false] (fun s_ => [(31, s_), (36, .string t276), (40, .string t277)]) (fun s_ w' => (w'.cell? ⟨gb272, 0, none⟩ = some (.int .i64 ((rd_T32 l0_0 x5_1).f0)) ∧ w'.cell? ⟨gb272, 1, none⟩ = some (.int .i64 ((rd_T32 l0_0 x5_1).f1)) ∧ w'.cell? ⟨gb272, 2, none⟩ = some (.string ((rd_T32 l0_0 x5_1).f2)) ∧ w'.cell? ⟨gb272, 3, none⟩ = some (.slice A271_3 ((rd_T32 l0_0 x5_1).f3).length c271_3)) ∧ (Kd.R (Kd.int .u8) 5 w' w.heap.size (fun _ => True) s_ y273) ∧ (w'.heap[gb268]? = some (.cells #[.slice (some ad271) l0_0.length c0_0] 26 (0, 0))) ∧ (w'.heap[gb272]? = some (.cells #[.int .i64 ((rd_T32 l0_0 x5_1).f0), .int .i64 ((rd_T32 l0_0 x5_1).f1), .string ((rd_T32 l0_0 x5_1).f2), .slice A271_3 ((rd_T32 l0_0 x5_1).f3).length c271_3] 32 (0, 0))) ∧ (Below w.heap.size w w')) ?_ ?_
                      rotate_left
                      · intro hJ4_9_13
                        refine join_ (σ := Value) 5 #[true, true, true, true, true, true, true, true, true, false, false, true, true, false, false, false] (fun s_ => [(31, s_), (32, .string (strOfNums y273)), (33, .string (x4_1 ++ (strOfNums y273)))]) (fun s_ w' => (w'.cell? ⟨gb272, 0, none⟩ = some (.int .i64 ((rd_T32 l0_0 x5_1).f0)) ∧ w'.cell? ⟨gb272, 1, none⟩ = some (.int .i64 ((rd_T32 l0_0 x5_1).f1)) ∧ w'.cell? ⟨gb272, 2, none⟩ = some (.string ((rd_T32 l0_0 x5_1).f2)) ∧ w'.cell? ⟨gb272, 3, none⟩ = some (.slice A271_3 ((rd_T32 l0_0 x5_1).f3).length c271_3)) ∧ (Kd.R (Kd.int .u8) 5 w' w.heap.size (fun _ => True) s_ y273) ∧ (w'.heap[gb268]? = some (.cells #[.slice (some ad271) l0_0.length c0_0] 26 (0, 0))) ∧ (w'.heap[gb272]? = some (.cells #[.int .i64 ((rd_T32 l0_0 x5_1).f0), .int .i64 ((rd_T32 l0_0 x5_1).f1), .string ((rd_T32 l0_0 x5_1).f2), .slice A271_3 ((rd_T32 l0_0 x5_1).f3).length c271_3] 32 (0, 0))) ∧ (Below w.heap.size w w')) ?_ ?_
                        rotate_left
                        · intro hJ4_5
                          refine join_ (σ := Value) 6 #[true, true, true, true, true, false, false, true, true, true, false, true, true, false, false, false] (fun s_ => [(31, s_), (36, .string t276)]) (fun s_ w' => (w'.cell? ⟨gb272, 0, none⟩ = some (.int .i64 ((rd_T32 l0_0 x5_1).f0)) ∧ w'.cell? ⟨gb272, 1, none⟩ = some (.int .i64 ((rd_T32 l0_0 x5_1).f1)) ∧ w'.cell? ⟨gb272, 2, none⟩ = some (.string ((rd_T32 l0_0 x5_1).f2)) ∧ w'.cell? ⟨gb272, 3, none⟩ = some (.slice A271_3 ((rd_T32 l0_0 x5_1).f3).length c271_3)) ∧ (Kd.R (Kd.int .u8) 5 w' w.heap.size (fun _ => True) s_ y273) ∧ (w'.heap[gb268]? = some (.cells #[.slice (some ad271) l0_0.length c0_0] 26 (0, 0))) ∧ (w'.heap[gb272]? = some (.cells #[.int .i64 ((rd_T32 l0_0 x5_1).f0), .int .i64 ((rd_T32 l0_0 x5_1).f1), .string ((rd_T32 l0_0 x5_1).f2), .slice A271_3 ((rd_T32 l0_0 x5_1).f3).length c271_3] 32 (0, 0))) ∧ (Below w.heap.size w w')) ?_ ?_
                          rotate_left
                          · intro hJ4_9
                            refine join_ (σ := Unit) 6 #[true, true, true, true, false, false, false, true, true, true, false, true, true, true, false, false] (fun s_ => [(36, .string t276), (40, .string t277)]) (fun s_ w' => (w'.cell? ⟨gb272, 0, none⟩ = some (.int .i64 ((rd_T32 l0_0 x5_1).f0)) ∧ w'.cell? ⟨gb272, 1, none⟩ = some (.int .i64 ((rd_T32 l0_0 x5_1).f1)) ∧ w'.cell? ⟨gb272, 2, none⟩ = some (.string ((rd_T32 l0_0 x5_1).f2)) ∧ w'.cell? ⟨gb272, 3, none⟩ = some (.slice A271_3 ((rd_T32 l0_0 x5_1).f3).length c271_3)) ∧ (w'.heap[gb268]? = some (.cells #[.slice (some ad271) l0_0.length c0_0] 26 (0, 0))) ∧ (w'.heap[gb272]? = some (.cells #[.int .i64 ((rd_T32 l0_0 x5_1).f0), .int .i64 ((rd_T32 l0_0 x5_1).f1), .string ((rd_T32 l0_0 x5_1).f2), .slice A271_3 ((rd_T32 l0_0 x5_1).f3).length c271_3] 32 (0, 0))) ∧ (Below w.heap.size w w')) ?_ ?_
                            rotate_left
                            · intro hJ9_13
                              refine join_ (σ := Value) 7 #[true, true, true, true, true, false, false, true, true, false, false, true, true, false, false, false] (fun s_ => [(31, s_)]) (fun s_ w' => (w'.cell? ⟨gb272, 0, none⟩ = some (.int .i64 ((rd_T32 l0_0 x5_1).f0)) ∧ w'.cell? ⟨gb272, 1, none⟩ = some (.int .i64 ((rd_T32 l0_0 x5_1).f1)) ∧ w'.cell? ⟨gb272, 2, none⟩ = some (.string ((rd_T32 l0_0 x5_1).f2)) ∧ w'.cell? ⟨gb272, 3, none⟩ = some (.slice A271_3 ((rd_T32 l0_0 x5_1).f3).length c271_3)) ∧ (Kd.R (Kd.int .u8) 5 w' w.heap.size (fun _ => True) s_ y273) ∧ (w'.heap[gb268]? = some (.cells #[.slice (some ad271) l0_0.length c0_0] 26 (0, 0))) ∧ (w'.heap[gb272]? = some (.cells #[.int .i64 ((rd_T32 l0_0 x5_1).f0), .int .i64 ((rd_T32 l0_0 x5_1).f1), .string ((rd_T32 l0_0 x5_1).f2), .slice A271_3 ((rd_T32 l0_0 x5_1).f3).length c271_3] 32 (0, 0))) ∧ (Below w.heap.size w w')) ?_ ?_
                              rotate_left
                              · intro hJ4
                                refine join_ (σ := Unit) 7 #[true, true, true, true, false, false, false, true, true, true, false, true, true, false, false, false] (fun s_ => [(36, .string t276)]) (fun s_ w' => (w'.cell? ⟨gb272, 0, none⟩ = some (.int .i64 ((rd_T32 l0_0 x5_1).f0)) ∧ w'.cell? ⟨gb272, 1, none⟩ = some (.int .i64 ((rd_T32 l0_0 x5_1).f1)) ∧ w'.cell? ⟨gb272, 2, none⟩ = some (.string ((rd_T32 l0_0 x5_1).f2)) ∧ w'.cell? ⟨gb272, 3, none⟩ = some (.slice A271_3 ((rd_T32 l0_0 x5_1).f3).length c271_3)) ∧ (w'.heap[gb268]? = some (.cells #[.slice (some ad271) l0_0.length c0_0] 26 (0, 0))) ∧ (w'.heap[gb272]? = some (.cells #[.int .i64 ((rd_T32 l0_0 x5_1).f0), .int .i64 ((rd_T32 l0_0 x5_1).f1), .string ((rd_T32 l0_0 x5_1).f2), .slice A271_3 ((rd_T32 l0_0 x5_1).f3).length c271_3] 32 (0, 0))) ∧ (Below w.heap.size w w')) ?_ ?_
                                rotate_left
                                · intro hJ9
                                  refine two_ (i := 4) (j := 9) (Ni := some 31) (Nj := some 36) #[true, true, true, true, true, false, false, true, true, false, false, true, true, false, false, false] #[true, true, true, true, false, false, false, true, true, true, false, true, true, false, false, false] rfl rfl rfl rfl (two_of HT_.out (by kernel_rfl)) (by decide) (by decide) (fun K hK => ?_) (fun K hK => ?_)
                                  · skip
                                    refine Kd.R_lit_step (Kd.int .u8) _ 5 ?hg (N := 31) ?hd (xs := ([((rd_T32 l0_0 x5_1).f0) % 256] : List Int)) (inner := [.int .u8 (((rd_T32 l0_0 x5_1).f0) % 256)]) (ok := fun _ => True) (okp := fun _ => True) ?hr ?hp (fun _ hk => hk) trivial (Below.refl _ _) (Nat.le_refl _) (by simp) ?_; (case hd => rfl); (case hg => rfl); (case hr => first | (go_simp; done) | (go_simp; rfl)); (case hp => exact (Reps.one (show Kd.M (Kd.int .u8) _ _ _ (((rd_T32 l0_0 x5_1).f0) % 256) [.int .u8 (((rd_T32 l0_0 x5_1).f0) % 256)] from rfl) (Reps.none _ _)))
                                    intro v274 w23 ho24 hb hg_ hnew_
                                    clear hg_ hnew_
                                    (first | rw [← Ny273.out] at ho24 | (simp only [Int.reduceToNat] at ho24; rw [← Ny273.out] at ho24))
                                    have n0_ := Aside0.mk (Kd.R_lower ho24 (below_size bw))
                                    have n1_ := Aside0.mk (blk_below (g := gb268) (o := .cells #[.slice (some ad271) l0_0.length c0_0] 26 (0, 0)) bx hb)
                                    have n2_ := Aside0.mk (blk_below (g := gb272) (o := .cells #[.int .i64 ((rd_T32 l0_0 x5_1).f0), .int .i64 ((rd_T32 l0_0 x5_1).f1), .string ((rd_T32 l0_0 x5_1).f2), .slice A271_3 ((rd_T32 l0_0 x5_1).f3).length c271_3] 32 (0, 0)) bx hb)
                                    have n3_ := Aside0.mk (below_step bw hb)
                                    clear BK268
                                    clear BK272
                                    clear HB
                                    have HO275 := n0_
                                    have BK268 := n1_
                                    have BK272 := n2_
                                    have HB := n3_
                                    clear n0_ n1_ n2_ n3_
                                    clear hb ho24
                                    refine hK.out _ _ ⟨(blk_cell BK272.out 0).trans rfl, (blk_cell BK272.out 1).trans rfl, (blk_cell BK272.out 2).trans rfl, (blk_cell BK272.out 3).trans rfl⟩ (fun hHeld => ?_)
                                    clear hK K
                                    refine norm_ (a' := ?_) ?_ ?_
                                    rotate_left
                                    · show Act.put _ (some 31) _ = _
                                      simp only [Act.put, List.setIfInBounds_toArray, List.set_cons_zero, List.set_cons_succ, i64_w, i32_w]
                                      rfl
                                    exact norm_ (by first | (simp only [putAll, Act.put, List.setIfInBounds_toArray, List.set_cons_zero, List.set_cons_succ]; done) | (simp only [putAll, Act.put, List.setIfInBounds_toArray, List.set_cons_zero, List.set_cons_succ]; rfl)) (hJ4 (v274) _ ⟨hHeld, (by (with_reducible repeat (first | apply Kd.R_alloc | apply Kd.R_drewN | apply Kd.R_drew)); exact HO275.out), bx, bx, bw⟩)
                                  · skip
                                    refine goes_ Try.func67 (by kernel_rfl) rfl #[.int .i64 ((rd_T32 l0_0 x5_1).f1)] (by rfl) rfl rfl (by (try simp only [List.map_toArray, List.map_cons, List.map_nil]); first | done | rfl | (simp only [List.length_drop, List.length_take]; rfl)) ?_
                                    with_reducible refine (spec_l01Var.calls k1 ((rd_T32 l0_0 x5_1).f1) t276 _ A13.out).mono ?_
                                    rintro e w23 ⟨rfl, hb⟩
                                    refine ⟨_, rfl, ?_⟩
                                    have n0_ := Aside0.mk (blk_below (g := gb268) (o := .cells #[.slice (some ad271) l0_0.length c0_0] 26 (0, 0)) bx hb)
                                    have n1_ := Aside0.mk (blk_below (g := gb272) (o := .cells #[.int .i64 ((rd_T32 l0_0 x5_1).f0), .int .i64 ((rd_T32 l0_0 x5_1).f1), .string ((rd_T32 l0_0 x5_1).f2), .slice A271_3 ((rd_T32 l0_0 x5_1).f3).length c271_3] 32 (0, 0)) bx hb)
                                    have n2_ := Aside0.mk (below_step bw hb)
                                    clear BK268
                                    clear BK272
                                    clear HB
                                    have BK268 := n0_
                                    have BK272 := n1_
                                    have HB := n2_
                                    clear n0_ n1_ n2_
                                    (try clear hb)
                                    (try clear hb2)
                                    (try clear hk)
                                    (try clear hi)
                                    refine hK.out _ _ ⟨(blk_cell BK272.out 0).trans rfl, (blk_cell BK272.out 1).trans rfl, (blk_cell BK272.out 2).trans rfl, (blk_cell BK272.out 3).trans rfl⟩ (fun hHeld => ?_)
                                    clear hK K
                                    refine norm_ (a' := ?_) ?_ ?_
                                    rotate_left
                                    · show Act.put _ (some 36) _ = _
                                      simp only [Act.put, List.setIfInBounds_toArray, List.set_cons_zero, List.set_cons_succ, i64_w, i32_w]
                                      rfl
                                    exact norm_ (by first | (simp only [putAll, Act.put, List.setIfInBounds_toArray, List.set_cons_zero, List.set_cons_succ]; done) | (simp only [putAll, Act.put, List.setIfInBounds_toArray, List.set_cons_zero, List.set_cons_succ]; rfl)) (hJ9 () _ ⟨hHeld, bx, bx, bw⟩)
                                · skip
                                  rintro _ w24 ⟨hS_, h0_, h1_, h2_⟩
                                  have n0_ : Aside0 (w24.heap[gb268]? = some (.cells #[.slice (some ad271) l0_0.length c0_0] 26 (0, 0))) := ⟨h0_⟩
                                  have n1_ : Aside0 (w24.heap[gb272]? = some (.cells #[.int .i64 ((rd_T32 l0_0 x5_1).f0), .int .i64 ((rd_T32 l0_0 x5_1).f1), .string ((rd_T32 l0_0 x5_1).f2), .slice A271_3 ((rd_T32 l0_0 x5_1).f3).length c271_3] 32 (0, 0))) := ⟨h1_⟩
                                  have n2_ : Aside0 (Below w.heap.size w w24) := ⟨h2_⟩
                                  clear BK268
                                  clear BK272
                                  clear HB
                                  clear h0_ h1_ h2_
                                  have BK268 := n0_
                                  have BK272 := n1_
                                  have HB := n2_
                                  clear n0_ n1_ n2_
                                  have hHeld : w24.cell? ⟨gb272, 0, none⟩ = some (.int .i64 ((rd_T32 l0_0 x5_1).f0)) ∧ w24.cell? ⟨gb272, 1, none⟩ = some (.int .i64 ((rd_T32 l0_0 x5_1).f1)) ∧ w24.cell? ⟨gb272, 2, none⟩ = some (.string ((rd_T32 l0_0 x5_1).f2)) ∧ w24.cell? ⟨gb272, 3, none⟩ = some (.slice A271_3 ((rd_T32 l0_0 x5_1).f3).length c271_3) := hS_
                                  refine norm_ (a' := ?_) ?_ ?_
                                  rotate_left
                                  · simp only [putAll, Act.put, List.setIfInBounds_toArray, List.set_cons_zero, List.set_cons_succ]
                                    rfl
                                  refine two_ (i := 4) (j := 13) (Ni := some 31) (Nj := some 40) #[true, true, true, true, true, false, false, true, true, true, false, true, true, false, false, false] #[true, true, true, true, false, false, false, true, true, true, false, true, true, true, false, false] rfl rfl rfl rfl (two_of HT_.out (by kernel_rfl)) (by decide) (by decide) (fun K hK => ?_) (fun K hK => ?_)
                                  · skip
                                    refine Kd.R_lit_step (Kd.int .u8) _ 5 ?hg (N := 31) ?hd (xs := ([((rd_T32 l0_0 x5_1).f0) % 256] : List Int)) (inner := [.int .u8 (((rd_T32 l0_0 x5_1).f0) % 256)]) (ok := fun _ => True) (okp := fun _ => True) ?hr ?hp (fun _ hk => hk) trivial (Below.refl _ _) (Nat.le_refl _) (by simp) ?_; (case hd => rfl); (case hg => rfl); (case hr => first | (go_simp; done) | (go_simp; rfl)); (case hp => exact (Reps.one (show Kd.M (Kd.int .u8) _ _ _ (((rd_T32 l0_0 x5_1).f0) % 256) [.int .u8 (((rd_T32 l0_0 x5_1).f0) % 256)] from rfl) (Reps.none _ _)))
                                    intro v274 w25 ho26 hb hg_ hnew_
                                    clear hg_ hnew_
                                    (first | rw [← Ny273.out] at ho26 | (simp only [Int.reduceToNat] at ho26; rw [← Ny273.out] at ho26))
                                    have n0_ := Aside0.mk (Kd.R_lower ho26 (below_size bw))
                                    have n1_ := Aside0.mk (blk_below (g := gb268) (o := .cells #[.slice (some ad271) l0_0.length c0_0] 26 (0, 0)) bx hb)
                                    have n2_ := Aside0.mk (blk_below (g := gb272) (o := .cells #[.int .i64 ((rd_T32 l0_0 x5_1).f0), .int .i64 ((rd_T32 l0_0 x5_1).f1), .string ((rd_T32 l0_0 x5_1).f2), .slice A271_3 ((rd_T32 l0_0 x5_1).f3).length c271_3] 32 (0, 0)) bx hb)
                                    have n3_ := Aside0.mk (below_step bw hb)
                                    clear BK268
                                    clear BK272
                                    clear HB
                                    have HO275 := n0_
                                    have BK268 := n1_
                                    have BK272 := n2_
                                    have HB := n3_
                                    clear n0_ n1_ n2_ n3_
                                    clear hb ho26
                                    refine hK.out _ _ ⟨(blk_cell BK272.out 0).trans rfl, (blk_cell BK272.out 1).trans rfl, (blk_cell BK272.out 2).trans rfl, (blk_cell BK272.out 3).trans rfl⟩ (fun hHeld => ?_)
                                    clear hK K
                                    refine norm_ (a' := ?_) ?_ ?_
                                    rotate_left
                                    · show Act.put _ (some 31) _ = _
                                      simp only [Act.put, List.setIfInBounds_toArray, List.set_cons_zero, List.set_cons_succ, i64_w, i32_w]
                                      rfl
                                    exact norm_ (by first | (simp only [putAll, Act.put, List.setIfInBounds_toArray, List.set_cons_zero, List.set_cons_succ]; done) | (simp only [putAll, Act.put, List.setIfInBounds_toArray, List.set_cons_zero, List.set_cons_succ]; rfl)) (hJ4_9 (v274) _ ⟨hHeld, (by (with_reducible repeat (first | apply Kd.R_alloc | apply Kd.R_drewN | apply Kd.R_drew)); exact HO275.out), bx, bx, bw⟩)
                                  · skip
                                    refine goes_ Try.func68 (by kernel_rfl) rfl #[.string ((rd_T32 l0_0 x5_1).f2)] (by rfl) rfl rfl (by (try simp only [List.map_toArray, List.map_cons, List.map_nil]); first | done | rfl | (simp only [List.length_drop, List.length_take]; rfl)) ?_
                                    with_reducible refine (spec_l16Short.calls k1 ((rd_T32 l0_0 x5_1).f2) t277 _ A15.out).mono ?_
                                    rintro e w25 ⟨rfl, hb⟩
                                    refine ⟨_, rfl, ?_⟩
                                    have n0_ := Aside0.mk (blk_below (g := gb268) (o := .cells #[.slice (some ad271) l0_0.length c0_0] 26 (0, 0)) bx hb)
                                    have n1_ := Aside0.mk (blk_below (g := gb272) (o := .cells #[.int .i64 ((rd_T32 l0_0 x5_1).f0), .int .i64 ((rd_T32 l0_0 x5_1).f1), .string ((rd_T32 l0_0 x5_1).f2), .slice A271_3 ((rd_T32 l0_0 x5_1).f3).length c271_3] 32 (0, 0)) bx hb)
                                    have n2_ := Aside0.mk (below_step bw hb)
                                    clear BK268
                                    clear BK272
                                    clear HB
                                    have BK268 := n0_
                                    have BK272 := n1_
                                    have HB := n2_
                                    clear n0_ n1_ n2_
                                    (try clear hb)
                                    (try clear hb2)
                                    (try clear hk)
                                    (try clear hi)
                                    refine hK.out _ _ ⟨(blk_cell BK272.out 0).trans rfl, (blk_cell BK272.out 1).trans rfl, (blk_cell BK272.out 2).trans rfl, (blk_cell BK272.out 3).trans rfl⟩ (fun hHeld => ?_)
                                    clear hK K
                                    refine norm_ (a' := ?_) ?_ ?_
                                    rotate_left
                                    · show Act.put _ (some 40) _ = _
                                      simp only [Act.put, List.setIfInBounds_toArray, List.set_cons_zero, List.set_cons_succ, i64_w, i32_w]
                                      rfl
                                    exact norm_ (by first | (simp only [putAll, Act.put, List.setIfInBounds_toArray, List.set_cons_zero, List.set_cons_succ]; done) | (simp only [putAll, Act.put, List.setIfInBounds_toArray, List.set_cons_zero, List.set_cons_succ]; rfl)) (hJ9_13 () _ ⟨hHeld, bx, bx, bw⟩)
                              · skip
                                rintro v274 w25 ⟨hS_, h0_, h1_, h2_, h3_⟩
                                have n0_ : Aside0 (Kd.R (Kd.int .u8) 5 w25 w.heap.size (fun _ => True) v274 y273) := ⟨h0_⟩
                                have n1_ : Aside0 (w25.heap[gb268]? = some (.cells #[.slice (some ad271) l0_0.length c0_0] 26 (0, 0))) := ⟨h1_⟩
                                have n2_ : Aside0 (w25.heap[gb272]? = some (.cells #[.int .i64 ((rd_T32 l0_0 x5_1).f0), .int .i64 ((rd_T32 l0_0 x5_1).f1), .string ((rd_T32 l0_0 x5_1).f2), .slice A271_3 ((rd_T32 l0_0 x5_1).f3).length c271_3] 32 (0, 0))) := ⟨h2_⟩
                                have n3_ : Aside0 (Below w.heap.size w w25) := ⟨h3_⟩
                                clear BK268
                                clear BK272
                                clear HB
                                clear h0_ h1_ h2_ h3_
                                have HO275 := n0_
                                have BK268 := n1_
                                have BK272 := n2_
                                have HB := n3_
                                clear n0_ n1_ n2_ n3_
                                have hHeld : w25.cell? ⟨gb272, 0, none⟩ = some (.int .i64 ((rd_T32 l0_0 x5_1).f0)) ∧ w25.cell? ⟨gb272, 1, none⟩ = some (.int .i64 ((rd_T32 l0_0 x5_1).f1)) ∧ w25.cell? ⟨gb272, 2, none⟩ = some (.string ((rd_T32 l0_0 x5_1).f2)) ∧ w25.cell? ⟨gb272, 3, none⟩ = some (.slice A271_3 ((rd_T32 l0_0 x5_1).f3).length c271_3) := hS_
                                refine norm_ (a' := ?_) ?_ ?_
                                rotate_left
                                · simp only [putAll, Act.put, List.setIfInBounds_toArray, List.set_cons_zero, List.set_cons_succ]
                                  rfl
                                refine two_ (i := 5) (j := 9) (Ni := some 32) (Nj := some 36) #[true, true, true, true, true, true, false, true, true, false, false, true, true, false, false, false] #[true, true, true, true, true, false, false, true, true, true, false, true, true, false, false, false] rfl rfl rfl rfl (two_of HT_.out (by kernel_rfl)) (by decide) (by decide) (fun K hK => ?_) (fun K hK => ?_)
                                · skip
                                  have hcv26 := own_string (P := Try.prog) Try.underlying22 Try.underlying5 Try.underlying9 (Kd.own_of_R HO275.out)
                                  refine value_ (w1 := ?_) (v := ?_) (by rfl) rfl ?_ ?_
                                  rotate_left 2
                                  · go_simp
                                    constructor
                                    · rfl
                                    · rfl
                                  clear hcv26
                                  refine hK.out _ _ ⟨(blk_cell BK272.out 0).trans rfl, (blk_cell BK272.out 1).trans rfl, (blk_cell BK272.out 2).trans rfl, (blk_cell BK272.out 3).trans rfl⟩ (fun hHeld => ?_)
                                  clear hK K
                                  refine norm_ (a' := ?_) ?_ ?_
                                  rotate_left
                                  · show Act.put _ (some 32) _ = _
                                    simp only [Act.put, List.setIfInBounds_toArray, List.set_cons_zero, List.set_cons_succ, i64_w, i32_w]
                                    rfl
                                  refine pure_ (i := 6) (N := some 33) (v := ?_) (a' := ?_) (bmk 16 6655) rfl rfl (any_of HT_.out (by kernel_rfl)) (fun _ _ _ h => h) (Or.inl ⟨by rfl, ?_⟩) ?_ ?_
                                  rotate_left
                                  · intro w'
                                    go_simp
                                    with_reducible rfl
                                  rotate_left
                                  · simp only [Act.put, List.setIfInBounds_toArray, List.set_cons_zero, List.set_cons_succ, i64_w, i32_w]
                                    rfl
                                  exact norm_ (by first | (simp only [putAll, Act.put, List.setIfInBounds_toArray, List.set_cons_zero, List.set_cons_succ]; done) | (simp only [putAll, Act.put, List.setIfInBounds_toArray, List.set_cons_zero, List.set_cons_succ]; rfl)) (hJ4_5 (v274) _ ⟨hHeld, (by (with_reducible repeat (first | apply Kd.R_alloc | apply Kd.R_drewN | apply Kd.R_drew)); exact HO275.out), bx, bx, bw⟩)
                                · skip
                                  refine goes_ Try.func67 (by kernel_rfl) rfl #[.int .i64 ((rd_T32 l0_0 x5_1).f1)] (by rfl) rfl rfl (by (try simp only [List.map_toArray, List.map_cons, List.map_nil]); first | done | rfl | (simp only [List.length_drop, List.length_take]; rfl)) ?_
                                  with_reducible refine (spec_l01Var.calls k1 ((rd_T32 l0_0 x5_1).f1) t276 _ A13.out).mono ?_
                                  rintro e w26 ⟨rfl, hb⟩
                                  refine ⟨_, rfl, ?_⟩
                                  have n0_ := Aside0.mk (Kd.R_below (by (with_reducible repeat (first | apply Kd.R_alloc | apply Kd.R_drewN | apply Kd.R_drew)); exact HO275.out) hb)
                                  have n1_ := Aside0.mk (blk_below (g := gb268) (o := .cells #[.slice (some ad271) l0_0.length c0_0] 26 (0, 0)) bx hb)
                                  have n2_ := Aside0.mk (blk_below (g := gb272) (o := .cells #[.int .i64 ((rd_T32 l0_0 x5_1).f0), .int .i64 ((rd_T32 l0_0 x5_1).f1), .string ((rd_T32 l0_0 x5_1).f2), .slice A271_3 ((rd_T32 l0_0 x5_1).f3).length c271_3] 32 (0, 0)) bx hb)
                                  have n3_ := Aside0.mk (below_step bw hb)
                                  clear HO275
                                  clear BK268
                                  clear BK272
                                  clear HB
                                  have HO275 := n0_
                                  have BK268 := n1_
                                  have BK272 := n2_
                                  have HB := n3_
                                  clear n0_ n1_ n2_ n3_
                                  (try clear hb)
                                  (try clear hb2)
                                  (try clear hk)
                                  (try clear hi)
                                  refine hK.out _ _ ⟨(blk_cell BK272.out 0).trans rfl, (blk_cell BK272.out 1).trans rfl, (blk_cell BK272.out 2).trans rfl, (blk_cell BK272.out 3).trans rfl⟩ (fun hHeld => ?_)
                                  clear hK K
                                  refine norm_ (a' := ?_) ?_ ?_
                                  rotate_left
                                  · show Act.put _ (some 36) _ = _
                                    simp only [Act.put, List.setIfInBounds_toArray, List.set_cons_zero, List.set_cons_succ, i64_w, i32_w]
                                    rfl
                                  exact norm_ (by first | (simp only [putAll, Act.put, List.setIfInBounds_toArray, List.set_cons_zero, List.set_cons_succ]; done) | (simp only [putAll, Act.put, List.setIfInBounds_toArray, List.set_cons_zero, List.set_cons_succ]; rfl)) (hJ4_9 (v274) _ ⟨hHeld, (by (with_reducible repeat (first | apply Kd.R_alloc | apply Kd.R_drewN | apply Kd.R_drew)); exact HO275.out), bx, bx, bw⟩)
                            · skip
                              rintro _ w25 ⟨hS_, h0_, h1_, h2_⟩
                              have n0_ : Aside0 (w25.heap[gb268]? = some (.cells #[.slice (some ad271) l0_0.length c0_0] 26 (0, 0))) := ⟨h0_⟩
                              have n1_ : Aside0 (w25.heap[gb272]? = some (.cells #[.int .i64 ((rd_T32 l0_0 x5_1).f0), .int .i64 ((rd_T32 l0_0 x5_1).f1), .string ((rd_T32 l0_0 x5_1).f2), .slice A271_3 ((rd_T32 l0_0 x5_1).f3).length c271_3] 32 (0, 0))) := ⟨h1_⟩
                              have n2_ : Aside0 (Below w.heap.size w w25) := ⟨h2_⟩
                              clear BK268
                              clear BK272
                              clear HB
                              clear h0_ h1_ h2_
                              have BK268 := n0_
                              have BK272 := n1_
                              have HB := n2_
                              clear n0_ n1_ n2_
                              have hHeld : w25.cell? ⟨gb272, 0, none⟩ = some (.int .i64 ((rd_T32 l0_0 x5_1).f0)) ∧ w25.cell? ⟨gb272, 1, none⟩ = some (.int .i64 ((rd_T32 l0_0 x5_1).f1)) ∧ w25.cell? ⟨gb272, 2, none⟩ = some (.string ((rd_T32 l0_0 x5_1).f2)) ∧ w25.cell? ⟨gb272, 3, none⟩ = some (.slice A271_3 ((rd_T32 l0_0 x5_1).f3).length c271_3) := hS_
                              refine norm_ (a' := ?_) ?_ ?_
                              rotate_left
                              · simp only [putAll, Act.put, List.setIfInBounds_toArray, List.set_cons_zero, List.set_cons_succ]
                                rfl
                              refine one_ (i := 4) (N := some 31) #[true, true, true, true, true, false, false, true, true, true, false, true, true, true, false, false] rfl rfl (one_of HT_.out (by kernel_rfl)) (by decide) (fun K hK => ?_)
                              refine Kd.R_lit_step (Kd.int .u8) _ 5 ?hg (N := 31) ?hd (xs := ([((rd_T32 l0_0 x5_1).f0) % 256] : List Int)) (inner := [.int .u8 (((rd_T32 l0_0 x5_1).f0) % 256)]) (ok := fun _ => True) (okp := fun _ => True) ?hr ?hp (fun _ hk => hk) trivial (Below.refl _ _) (Nat.le_refl _) (by simp) ?_; (case hd => rfl); (case hg => rfl); (case hr => first | (go_simp; done) | (go_simp; rfl)); (case hp => exact (Reps.one (show Kd.M (Kd.int .u8) _ _ _ (((rd_T32 l0_0 x5_1).f0) % 256) [.int .u8 (((rd_T32 l0_0 x5_1).f0) % 256)] from rfl) (Reps.none _ _)))
                              intro v274 w26 ho27 hb hg_ hnew_
                              clear hg_ hnew_
                              (first | rw [← Ny273.out] at ho27 | (simp only [Int.reduceToNat] at ho27; rw [← Ny273.out] at ho27))
                              have n0_ := Aside0.mk (Kd.R_lower ho27 (below_size bw))
                              have n1_ := Aside0.mk (blk_below (g := gb268) (o := .cells #[.slice (some ad271) l0_0.length c0_0] 26 (0, 0)) bx hb)
                              have n2_ := Aside0.mk (blk_below (g := gb272) (o := .cells #[.int .i64 ((rd_T32 l0_0 x5_1).f0), .int .i64 ((rd_T32 l0_0 x5_1).f1), .string ((rd_T32 l0_0 x5_1).f2), .slice A271_3 ((rd_T32 l0_0 x5_1).f3).length c271_3] 32 (0, 0)) bx hb)
                              have n3_ := Aside0.mk (below_step bw hb)
                              clear BK268
                              clear BK272
                              clear HB
                              have HO275 := n0_
                              have BK268 := n1_
                              have BK272 := n2_
                              have HB := n3_
                              clear n0_ n1_ n2_ n3_
                              clear hb ho27
                              refine hK.out _ _ ⟨(blk_cell BK272.out 0).trans rfl, (blk_cell BK272.out 1).trans rfl, (blk_cell BK272.out 2).trans rfl, (blk_cell BK272.out 3).trans rfl⟩ (fun hHeld => ?_)
                              clear hK K
                              refine norm_ (a' := ?_) ?_ ?_
                              rotate_left
                              · show Act.put _ (some 31) _ = _
                                simp only [Act.put, List.setIfInBounds_toArray, List.set_cons_zero, List.set_cons_succ, i64_w, i32_w]
                                rfl
                              exact norm_ (by first | (simp only [putAll, Act.put, List.setIfInBounds_toArray, List.set_cons_zero, List.set_cons_succ]; done) | (simp only [putAll, Act.put, List.setIfInBounds_toArray, List.set_cons_zero, List.set_cons_succ]; rfl)) (hJ4_9_13 (v274) _ ⟨hHeld, (by (with_reducible repeat (first | apply Kd.R_alloc | apply Kd.R_drewN | apply Kd.R_drew)); exact HO275.out), bx, bx, bw⟩)
                          · skip
                            rintro v274 w26 ⟨hS_, h0_, h1_, h2_, h3_⟩
                            have n0_ : Aside0 (Kd.R (Kd.int .u8) 5 w26 w.heap.size (fun _ => True) v274 y273) := ⟨h0_⟩
                            have n1_ : Aside0 (w26.heap[gb268]? = some (.cells #[.slice (some ad271) l0_0.length c0_0] 26 (0, 0))) := ⟨h1_⟩
                            have n2_ : Aside0 (w26.heap[gb272]? = some (.cells #[.int .i64 ((rd_T32 l0_0 x5_1).f0), .int .i64 ((rd_T32 l0_0 x5_1).f1), .string ((rd_T32 l0_0 x5_1).f2), .slice A271_3 ((rd_T32 l0_0 x5_1).f3).length c271_3] 32 (0, 0))) := ⟨h2_⟩
                            have n3_ : Aside0 (Below w.heap.size w w26) := ⟨h3_⟩
                            clear BK268
                            clear BK272
                            clear HB
                            clear h0_ h1_ h2_ h3_
                            have HO275 := n0_
                            have BK268 := n1_
                            have BK272 := n2_
                            have HB := n3_
                            clear n0_ n1_ n2_ n3_
                            have hHeld : w26.cell? ⟨gb272, 0, none⟩ = some (.int .i64 ((rd_T32 l0_0 x5_1).f0)) ∧ w26.cell? ⟨gb272, 1, none⟩ = some (.int .i64 ((rd_T32 l0_0 x5_1).f1)) ∧ w26.cell? ⟨gb272, 2, none⟩ = some (.string ((rd_T32 l0_0 x5_1).f2)) ∧ w26.cell? ⟨gb272, 3, none⟩ = some (.slice A271_3 ((rd_T32 l0_0 x5_1).f3).length c271_3) := hS_
                            refine norm_ (a' := ?_) ?_ ?_
                            rotate_left
                            · simp only [putAll, Act.put, List.setIfInBounds_toArray, List.set_cons_zero, List.set_cons_succ]
                              rfl
                            refine two_ (i := 5) (j := 13) (Ni := some 32) (Nj := some 40) #[true, true, true, true, true, true, false, true, true, true, false, true, true, false, false, false] #[true, true, true, true, true, false, false, true, true, true, false, true, true, true, false, false] rfl rfl rfl rfl (two_of HT_.out (by kernel_rfl)) (by decide) (by decide) (fun K hK => ?_) (fun K hK => ?_)
                            · skip
                              have hcv27 := own_string (P := Try.prog) Try.underlying22 Try.underlying5 Try.underlying9 (Kd.own_of_R HO275.out)
                              refine value_ (w1 := ?_) (v := ?_) (by rfl) rfl ?_ ?_
                              rotate_left 2
                              · go_simp
                                constructor
                                · rfl
                                · rfl
                              clear hcv27
                              refine hK.out _ _ ⟨(blk_cell BK272.out 0).trans rfl, (blk_cell BK272.out 1).trans rfl, (blk_cell BK272.out 2).trans rfl, (blk_cell BK272.out 3).trans rfl⟩ (fun hHeld => ?_)
                              clear hK K
                              refine norm_ (a' := ?_) ?_ ?_
                              rotate_left
                              · show Act.put _ (some 32) _ = _
                                simp only [Act.put, List.setIfInBounds_toArray, List.set_cons_zero, List.set_cons_succ, i64_w, i32_w]
                                rfl
                              refine pure_ (i := 6) (N := some 33) (v := ?_) (a' := ?_) (bmk 16 7167) rfl rfl (any_of HT_.out (by kernel_rfl)) (fun _ _ _ h => h) (Or.inl ⟨by rfl, ?_⟩) ?_ ?_
                              rotate_left
                              · intro w'
                                go_simp
                                with_reducible rfl
                              rotate_left
                              · simp only [Act.put, List.setIfInBounds_toArray, List.set_cons_zero, List.set_cons_succ, i64_w, i32_w]
                                rfl
                              refine pure_ (i := 10) (N := some 37) (v := ?_) (a' := ?_) (bmk 16 8191) rfl rfl (any_of HT_.out (by kernel_rfl)) (fun _ _ _ h => h) (Or.inl ⟨by rfl, ?_⟩) ?_ ?_
                              rotate_left
                              · intro w'
                                go_simp
                                with_reducible rfl
                              rotate_left
                              · simp only [Act.put, List.setIfInBounds_toArray, List.set_cons_zero, List.set_cons_succ, i64_w, i32_w]
                                rfl
                              exact norm_ (by first | (simp only [putAll, Act.put, List.setIfInBounds_toArray, List.set_cons_zero, List.set_cons_succ]; done) | (simp only [putAll, Act.put, List.setIfInBounds_toArray, List.set_cons_zero, List.set_cons_succ]; rfl)) (hJ4_5_9 (v274) _ ⟨hHeld, (by (with_reducible repeat (first | apply Kd.R_alloc | apply Kd.R_drewN | apply Kd.R_drew)); exact HO275.out), bx, bx, bw⟩)
                            · skip
                              refine goes_ Try.func68 (by kernel_rfl) rfl #[.string ((rd_T32 l0_0 x5_1).f2)] (by rfl) rfl rfl (by (try simp only [List.map_toArray, List.map_cons, List.map_nil]); first | done | rfl | (simp only [List.length_drop, List.length_take]; rfl)) ?_
                              with_reducible refine (spec_l16Short.calls k1 ((rd_T32 l0_0 x5_1).f2) t277 _ A15.out).mono ?_
                              rintro e w27 ⟨rfl, hb⟩
                              refine ⟨_, rfl, ?_⟩
                              have n0_ := Aside0.mk (Kd.R_below (by (with_reducible repeat (first | apply Kd.R_alloc | apply Kd.R_drewN | apply Kd.R_drew)); exact HO275.out) hb)
                              have n1_ := Aside0.mk (blk_below (g := gb268) (o := .cells #[.slice (some ad271) l0_0.length c0_0] 26 (0, 0)) bx hb)
                              have n2_ := Aside0.mk (blk_below (g := gb272) (o := .cells #[.int .i64 ((rd_T32 l0_0 x5_1).f0), .int .i64 ((rd_T32 l0_0 x5_1).f1), .string ((rd_T32 l0_0 x5_1).f2), .slice A271_3 ((rd_T32 l0_0 x5_1).f3).length c271_3] 32 (0, 0)) bx hb)
                              have n3_ := Aside0.mk (below_step bw hb)
                              clear HO275
                              clear BK268
                              clear BK272
                              clear HB
                              have HO275 := n0_
                              have BK268 := n1_
                              have BK272 := n2_
                              have HB := n3_
                              clear n0_ n1_ n2_ n3_
                              (try clear hb)
                              (try clear hb2)
                              (try clear hk)
                              (try clear hi)
                              refine hK.out _ _ ⟨(blk_cell BK272.out 0).trans rfl, (blk_cell BK272.out 1).trans rfl, (blk_cell BK272.out 2).trans rfl, (blk_cell BK272.out 3).trans rfl⟩ (fun hHeld => ?_)
                              clear hK K
                              refine norm_ (a' := ?_) ?_ ?_
                              rotate_left
                              · show Act.put _ (some 40) _ = _
                                simp only [Act.put, List.setIfInBounds_toArray, List.set_cons_zero, List.set_cons_succ, i64_w, i32_w]
                                rfl
                              exact norm_ (by first | (simp only [putAll, Act.put, List.setIfInBounds_toArray, List.set_cons_zero, List.set_cons_succ]; done) | (simp only [putAll, Act.put, List.setIfInBounds_toArray, List.set_cons_zero, List.set_cons_succ]; rfl)) (hJ4_9_13 (v274) _ ⟨hHeld, (by (with_reducible repeat (first | apply Kd.R_alloc | apply Kd.R_drewN | apply Kd.R_drew)); exact HO275.out), bx, bx, bw⟩)
                        · skip
                          rintro v274 w26 ⟨hS_, h0_, h1_, h2_, h3_⟩
                          have n0_ : Aside0 (Kd.R (Kd.int .u8) 5 w26 w.heap.size (fun _ => True) v274 y273) := ⟨h0_⟩
                          have n1_ : Aside0 (w26.heap[gb268]? = some (.cells #[.slice (some ad271) l0_0.length c0_0] 26 (0, 0))) := ⟨h1_⟩
                          have n2_ : Aside0 (w26.heap[gb272]? = some (.cells #[.int .i64 ((rd_T32 l0_0 x5_1).f0), .int .i64 ((rd_T32 l0_0 x5_1).f1), .string ((rd_T32 l0_0 x5_1).f2), .slice A271_3 ((rd_T32 l0_0 x5_1).f3).length c271_3] 32 (0, 0))) := ⟨h2_⟩
                          have n3_ : Aside0 (Below w.heap.size w w26) := ⟨h3_⟩
                          clear BK268
                          clear BK272
                          clear HB
                          clear h0_ h1_ h2_ h3_
                          have HO275 := n0_
                          have BK268 := n1_
                          have BK272 := n2_
                          have HB := n3_
                          clear n0_ n1_ n2_ n3_
                          have hHeld : w26.cell? ⟨gb272, 0, none⟩ = some (.int .i64 ((rd_T32 l0_0 x5_1).f0)) ∧ w26.cell? ⟨gb272, 1, none⟩ = some (.int .i64 ((rd_T32 l0_0 x5_1).f1)) ∧ w26.cell? ⟨gb272, 2, none⟩ = some (.string ((rd_T32 l0_0 x5_1).f2)) ∧ w26.cell? ⟨gb272, 3, none⟩ = some (.slice A271_3 ((rd_T32 l0_0 x5_1).f3).length c271_3) := hS_
                          refine norm_ (a' := ?_) ?_ ?_
                          rotate_left
                          · simp only [putAll, Act.put, List.setIfInBounds_toArray, List.set_cons_zero, List.set_cons_succ]
                            rfl
                          refine one_ (i := 9) (N := some 36) #[true, true, true, true, true, true, true, true, true, true, false, true, true, false, false, false] rfl rfl (one_of HT_.out (by kernel_rfl)) (by decide) (fun K hK => ?_)
                          refine goes_ Try.func67 (by kernel_rfl) rfl #[.int .i64 ((rd_T32 l0_0 x5_1).f1)] (by rfl) rfl rfl (by (try simp only [List.map_toArray, List.map_cons, List.map_nil]); first | done | rfl | (simp only [List.length_drop, List.length_take]; rfl)) ?_
                          with_reducible refine (spec_l01Var.calls k1 ((rd_T32 l0_0 x5_1).f1) t276 _ A13.out).mono ?_
                          rintro e w27 ⟨rfl, hb⟩
                          refine ⟨_, rfl, ?_⟩
                          have n0_ := Aside0.mk (Kd.R_below (by (with_reducible repeat (first | apply Kd.R_alloc | apply Kd.R_drewN | apply Kd.R_drew)); exact HO275.out) hb)
                          have n1_ := Aside0.mk (blk_below (g := gb268) (o := .cells #[.slice (some ad271) l0_0.length c0_0] 26 (0, 0)) bx hb)
                          have n2_ := Aside0.mk (blk_below (g := gb272) (o := .cells #[.int .i64 ((rd_T32 l0_0 x5_1).f0), .int .i64 ((rd_T32 l0_0 x5_1).f1), .string ((rd_T32 l0_0 x5_1).f2), .slice A271_3 ((rd_T32 l0_0 x5_1).f3).length c271_3] 32 (0, 0)) bx hb)
                          have n3_ := Aside0.mk (below_step bw hb)
                          clear HO275
                          clear BK268
                          clear BK272
                          clear HB
                          have HO275 := n0_
                          have BK268 := n1_
                          have BK272 := n2_
                          have HB := n3_
                          clear n0_ n1_ n2_ n3_
                          (try clear hb)
                          (try clear hb2)
                          (try clear hk)
                          (try clear hi)
                          refine hK.out _ _ ⟨(blk_cell BK272.out 0).trans rfl, (blk_cell BK272.out 1).trans rfl, (blk_cell BK272.out 2).trans rfl, (blk_cell BK272.out 3).trans rfl⟩ (fun hHeld => ?_)
                          clear hK K
                          refine norm_ (a' := ?_) ?_ ?_
                          rotate_left
                          · show Act.put _ (some 36) _ = _
                            simp only [Act.put, List.setIfInBounds_toArray, List.set_cons_zero, List.set_cons_succ, i64_w, i32_w]
                            rfl
                          refine pure_ (i := 10) (N := some 37) (v := ?_) (a' := ?_) (bmk 16 8191) rfl rfl (any_of HT_.out (by kernel_rfl)) (fun _ _ _ h => h) (Or.inl ⟨by rfl, ?_⟩) ?_ ?_
                          rotate_left
                          · intro w'
                            go_simp
                            with_reducible rfl
                          rotate_left
                          · simp only [Act.put, List.setIfInBounds_toArray, List.set_cons_zero, List.set_cons_succ, i64_w, i32_w]
                            rfl
                          exact norm_ (by first | (simp only [putAll, Act.put, List.setIfInBounds_toArray, List.set_cons_zero, List.set_cons_succ]; done) | (simp only [putAll, Act.put, List.setIfInBounds_toArray, List.set_cons_zero, List.set_cons_succ]; rfl)) (hJ4_5_9 (v274) _ ⟨hHeld, (by (with_reducible repeat (first | apply Kd.R_alloc | apply Kd.R_drewN | apply Kd.R_drew)); exact HO275.out), bx, bx, bw⟩)
                      · skip
                        rintro v274 w27 ⟨hS_, h0_, h1_, h2_, h3_⟩
                        have n0_ : Aside0 (Kd.R (Kd.int .u8) 5 w27 w.heap.size (fun _ => True) v274 y273) := ⟨h0_⟩
                        have n1_ : Aside0 (w27.heap[gb268]? = some (.cells #[.slice (some ad271) l0_0.length c0_0] 26 (0, 0))) := ⟨h1_⟩
                        have n2_ : Aside0 (w27.heap[gb272]? = some (.cells #[.int .i64 ((rd_T32 l0_0 x5_1).f0), .int .i64 ((rd_T32 l0_0 x5_1).f1), .string ((rd_T32 l0_0 x5_1).f2), .slice A271_3 ((rd_T32 l0_0 x5_1).f3).length c271_3] 32 (0, 0))) := ⟨h2_⟩
                        have n3_ : Aside0 (Below w.heap.size w w27) := ⟨h3_⟩
                        clear BK268
                        clear BK272
                        clear HB
                        clear h0_ h1_ h2_ h3_
                        have HO275 := n0_
                        have BK268 := n1_
                        have BK272 := n2_
                        have HB := n3_
                        clear n0_ n1_ n2_ n3_
                        have hHeld : w27.cell? ⟨gb272, 0, none⟩ = some (.int .i64 ((rd_T32 l0_0 x5_1).f0)) ∧ w27.cell? ⟨gb272, 1, none⟩ = some (.int .i64 ((rd_T32 l0_0 x5_1).f1)) ∧ w27.cell? ⟨gb272, 2, none⟩ = some (.string ((rd_T32 l0_0 x5_1).f2)) ∧ w27.cell? ⟨gb272, 3, none⟩ = some (.slice A271_3 ((rd_T32 l0_0 x5_1).f3).length c271_3) := hS_
                        refine norm_ (a' := ?_) ?_ ?_
                        rotate_left
                        · simp only [putAll, Act.put, List.setIfInBounds_toArray, List.set_cons_zero, List.set_cons_succ]
                          rfl
                        refine one_ (i := 5) (N := some 32) #[true, true, true, true, true, true, false, true, true, true, false, true, true, true, false, false] rfl rfl (one_of HT_.out (by kernel_rfl)) (by decide) (fun K hK => ?_)
                        have hcv28 := own_string (P := Try.prog) Try.underlying22 Try.underlying5 Try.underlying9 (Kd.own_of_R HO275.out)
                        refine value_ (w1 := ?_) (v := ?_) (by rfl) rfl ?_ ?_
                        rotate_left 2
                        · go_simp
                          constructor
                          · rfl
                          · rfl
                        clear hcv28
                        refine hK.out _ _ ⟨(blk_cell BK272.out 0).trans rfl, (blk_cell BK272.out 1).trans rfl, (blk_cell BK272.out 2).trans rfl, (blk_cell BK272.out 3).trans rfl⟩ (fun hHeld => ?_)
                        clear hK K
                        refine norm_ (a' := ?_) ?_ ?_
                        rotate_left
                        · show Act.put _ (some 32) _ = _
                          simp only [Act.put, List.setIfInBounds_toArray, List.set_cons_zero, List.set_cons_succ, i64_w, i32_w]
                          rfl
                        refine pure_ (i := 6) (N := some 33) (v := ?_) (a' := ?_) (bmk 16 15359) rfl rfl (any_of HT_.out (by kernel_rfl)) (fun _ _ _ h => h) (Or.inl ⟨by rfl, ?_⟩) ?_ ?_
                        rotate_left
                        · intro w'
                          go_simp
                          with_reducible rfl
                        rotate_left
                        · simp only [Act.put, List.setIfInBounds_toArray, List.set_cons_zero, List.set_cons_succ, i64_w, i32_w]
                          rfl
                        refine pure_ (i := 10) (N := some 37) (v := ?_) (a' := ?_) (bmk 16 16383) rfl rfl (any_of HT_.out (by kernel_rfl)) (fun _ _ _ h => h) (Or.inl ⟨by rfl, ?_⟩) ?_ ?_
                        rotate_left
                        · intro w'
                          go_simp
                          with_reducible rfl
                        rotate_left
                        · simp only [Act.put, List.setIfInBounds_toArray, List.set_cons_zero, List.set_cons_succ, i64_w, i32_w]
                          rfl
                        exact norm_ (by first | (simp only [putAll, Act.put, List.setIfInBounds_toArray, List.set_cons_zero, List.set_cons_succ]; done) | (simp only [putAll, Act.put, List.setIfInBounds_toArray, List.set_cons_zero, List.set_cons_succ]; rfl)) (hJ4_5_9_13 (v274) _ ⟨hHeld, (by (with_reducible repeat (first | apply Kd.R_alloc | apply Kd.R_drewN | apply Kd.R_drew)); exact HO275.out), bx, bx, bw⟩)
                    · skip
                      rintro v274 w27 ⟨hS_, h0_, h1_, h2_, h3_⟩
                      have n0_ : Aside0 (Kd.R (Kd.int .u8) 5 w27 w.heap.size (fun _ => True) v274 y273) := ⟨h0_⟩
                      have n1_ : Aside0 (w27.heap[gb268]? = some (.cells #[.slice (some ad271) l0_0.length c0_0] 26 (0, 0))) := ⟨h1_⟩
                      have n2_ : Aside0 (w27.heap[gb272]? = some (.cells #[.int .i64 ((rd_T32 l0_0 x5_1).f0), .int .i64 ((rd_T32 l0_0 x5_1).f1), .string ((rd_T32 l0_0 x5_1).f2), .slice A271_3 ((rd_T32 l0_0 x5_1).f3).length c271_3] 32 (0, 0))) := ⟨h2_⟩
                      have n3_ : Aside0 (Below w.heap.size w w27) := ⟨h3_⟩
                      clear BK268
                      clear BK272
                      clear HB
                      clear h0_ h1_ h2_ h3_
                      have HO275 := n0_
                      have BK268 := n1_
                      have BK272 := n2_
                      have HB := n3_
                      clear n0_ n1_ n2_ n3_
                      have hHeld : w27.cell? ⟨gb272, 0, none⟩ = some (.int .i64 ((rd_T32 l0_0 x5_1).f0)) ∧ w27.cell? ⟨gb272, 1, none⟩ = some (.int .i64 ((rd_T32 l0_0 x5_1).f1)) ∧ w27.cell? ⟨gb272, 2, none⟩ = some (.string ((rd_T32 l0_0 x5_1).f2)) ∧ w27.cell? ⟨gb272, 3, none⟩ = some (.slice A271_3 ((rd_T32 l0_0 x5_1).f3).length c271_3) := hS_
                      refine norm_ (a' := ?_) ?_ ?_
                      rotate_left
                      · simp only [putAll, Act.put, List.setIfInBounds_toArray, List.set_cons_zero, List.set_cons_succ]
                        rfl
                      refine one_ (i := 13) (N := some 40) #[true, true, true, true, true, true, true, true, true, true, true, true, true, true, false, false] rfl rfl (one_of HT_.out (by kernel_rfl)) (by decide) (fun K hK => ?_)
                      refine goes_ Try.func68 (by kernel_rfl) rfl #[.string ((rd_T32 l0_0 x5_1).f2)] (by rfl) rfl rfl (by (try simp only [List.map_toArray, List.map_cons, List.map_nil]); first | done | rfl | (simp only [List.length_drop, List.length_take]; rfl)) ?_
                      with_reducible refine (spec_l16Short.calls k1 ((rd_T32 l0_0 x5_1).f2) t277 _ A15.out).mono ?_
                      rintro e w28 ⟨rfl, hb⟩
                      refine ⟨_, rfl, ?_⟩
                      have n0_ := Aside0.mk (Kd.R_below (by (with_reducible repeat (first | apply Kd.R_alloc | apply Kd.R_drewN | apply Kd.R_drew)); exact HO275.out) hb)
                      have n1_ := Aside0.mk (blk_below (g := gb268) (o := .cells #[.slice (some ad271) l0_0.length c0_0] 26 (0, 0)) bx hb)
                      have n2_ := Aside0.mk (blk_below (g := gb272) (o := .cells #[.int .i64 ((rd_T32 l0_0 x5_1).f0), .int .i64 ((rd_T32 l0_0 x5_1).f1), .string ((rd_T32 l0_0 x5_1).f2), .slice A271_3 ((rd_T32 l0_0 x5_1).f3).length c271_3] 32 (0, 0)) bx hb)
                      have n3_ := Aside0.mk (below_step bw hb)
                      clear HO275
                      clear BK268
                      clear BK272
                      clear HB
                      have HO275 := n0_
                      have BK268 := n1_
                      have BK272 := n2_
                      have HB := n3_
                      clear n0_ n1_ n2_ n3_
                      (try clear hb)
                      (try clear hb2)
                      (try clear hk)
                      (try clear hi)
                      refine hK.out _ _ ⟨(blk_cell BK272.out 0).trans rfl, (blk_cell BK272.out 1).trans rfl, (blk_cell BK272.out 2).trans rfl, (blk_cell BK272.out 3).trans rfl⟩ (fun hHeld => ?_)
                      clear hK K
                      refine norm_ (a' := ?_) ?_ ?_
                      rotate_left
                      · show Act.put _ (some 40) _ = _
                        simp only [Act.put, List.setIfInBounds_toArray, List.set_cons_zero, List.set_cons_succ, i64_w, i32_w]
                        rfl
                      exact norm_ (by first | (simp only [putAll, Act.put, List.setIfInBounds_toArray, List.set_cons_zero, List.set_cons_succ]; done) | (simp only [putAll, Act.put, List.setIfInBounds_toArray, List.set_cons_zero, List.set_cons_succ]; rfl)) (hJ4_5_9_13 (v274) _ ⟨hHeld, (by (with_reducible repeat (first | apply Kd.R_alloc | apply Kd.R_drewN | apply Kd.R_drew)); exact HO275.out), bx, bx, bw⟩)
                  rintro v274 w28 ⟨hS_, h0_, h1_, h2_, h3_⟩
                  have n0_ : Aside0 (Kd.R (Kd.int .u8) 5 w28 w.heap.size (fun _ => True) v274 y273) := ⟨h0_⟩
                  have n1_ : Aside0 (w28.heap[gb268]? = some (.cells #[.slice (some ad271) l0_0.length c0_0] 26 (0, 0))) := ⟨h1_⟩
                  have n2_ : Aside0 (w28.heap[gb272]? = some (.cells #[.int .i64 ((rd_T32 l0_0 x5_1).f0), .int .i64 ((rd_T32 l0_0 x5_1).f1), .string ((rd_T32 l0_0 x5_1).f2), .slice A271_3 ((rd_T32 l0_0 x5_1).f3).length c271_3] 32 (0, 0))) := ⟨h2_⟩
                  have n3_ : Aside0 (Below w.heap.size w w28) := ⟨h3_⟩
                  clear BK268
                  clear BK272
                  clear HB
                  clear h0_ h1_ h2_ h3_
                  have HO275 := n0_
                  have BK268 := n1_
                  have BK272 := n2_
                  have HB := n3_
                  clear n0_ n1_ n2_ n3_
                  have hHeld : w28.cell? ⟨gb272, 0, none⟩ = some (.int .i64 ((rd_T32 l0_0 x5_1).f0)) ∧ w28.cell? ⟨gb272, 1, none⟩ = some (.int .i64 ((rd_T32 l0_0 x5_1).f1)) ∧ w28.cell? ⟨gb272, 2, none⟩ = some (.string ((rd_T32 l0_0 x5_1).f2)) ∧ w28.cell? ⟨gb272, 3, none⟩ = some (.slice A271_3 ((rd_T32 l0_0 x5_1).f3).length c271_3) := hS_
                  refine norm_ (a' := ?_) ?_ ?_
                  rotate_left
                  · simp only [putAll, Act.put, List.setIfInBounds_toArray, List.set_cons_zero, List.set_cons_succ]
                    rfl
                  refine pure_ (i := 14) (N := some 41) (v := ?_) (a' := ?_) (bmk 16 32767) rfl rfl (any_of HT_.out (by kernel_rfl)) (fun _ _ _ h => h) (Or.inl ⟨by rfl, ?_⟩) ?_ ?_
                  rotate_left
                  · intro w'
                    go_simp
                    with_reducible rfl
                  rotate_left
                  · simp only [Act.put, List.setIfInBounds_toArray, List.set_cons_zero, List.set_cons_succ, i64_w, i32_w]
                    rfl
                  refine pure_ (i := 15) (N := some 4) (v := ?_) (a' := ?_) (bmk 16 65535) rfl rfl (any_of HT_.out (by kernel_rfl)) (fun _ _ _ h => h) (Or.inl ⟨by rfl, ?_⟩) ?_ ?_
                  rotate_left
                  · intro w'
                    go_simp
                    with_reducible rfl
                  rotate_left
                  · simp only [Act.put, List.setIfInBounds_toArray, List.set_cons_zero, List.set_cons_succ, i64_w, i32_w]
                    rfl
                  refine done_ (done_of HT_.out (by kernel_rfl)) ?_
                  try go_wp2
                  go_loopg [4, 7] k1 (fun kq v4 v7 w' => ∃ (x4_2 : ByteArray) (x7_2 : Int), v4 = .string x4_2 ∧ v7 = .int .i64 x7_2 ∧ Aside0 (spec_ExprText.l1 kq x4_2 x5_1 x7_2 l0_0 ((rd_T32 l0_0 x5_1).f0) ((rd_T32 l0_0 x5_1).f1) ((rd_T32 l0_0 x5_1).f2) ((rd_T32 l0_0 x5_1).f3) = some (r1, r2)) ∧ Aside0 (kq ≤ k1) ∧ Aside0 (w'.heap[gb268]? = some (.cells #[(.slice (some ad271) l0_0.length c0_0)] 26 (0, 0))) ∧ Aside0 (w'.heap[gb272]? = some (.cells #[.int .i64 ((rd_T32 l0_0 x5_1).f0), .int .i64 ((rd_T32 l0_0 x5_1).f1), .string ((rd_T32 l0_0 x5_1).f2), (.slice A271_3 ((rd_T32 l0_0 x5_1).f3).length c271_3)] 32 (0, 0))) ∧ Aside0 (Below w.heap.size w w'))
                  case atStart => exact ⟨(((x4_1 ++ (strOfNums y273)) ++ t276) ++ t277), (0), (by first | rfl | (simp; done) | (simp [*]; done) | (simp [isE0, isE1]; done)), (by first | rfl | (simp; done) | (simp [*]; done) | (simp [isE0, isE1]; done)), H', ⟨Nat.le_refl _⟩, ⟨by (with_reducible repeat (first | refine blk_drewN ?_ _ | refine blk_drew ?_ | refine blk_alloc ?_ _)); exact BK268.out⟩, ⟨by (with_reducible repeat (first | refine blk_drewN ?_ _ | refine blk_drew ?_ | refine blk_alloc ?_ _)); exact BK272.out⟩, ⟨by repeat (first | (with_reducible first | exact HB.out | apply below_alloc | apply pw_below_drewN | apply below_drew1 | refine below_set ?_ GE268.out | refine below_set ?_ GE272.out) | exact HB.out)⟩⟩
                  case round =>
                    clear H'
                    try clear c2
                    try clear p2
                    try clear hcv2
                    try clear c6
                    try clear hcv26
                    try clear c27
                    try clear hcv27
                    try clear hcv28
                    obtain ⟨x4_2, x7_2, rfl, rfl, HA, HK2, BK268, BK272, HB⟩ := hrel
                    cases gk with
                    | zero => exact absurd HA.out (by simp [spec_ExprText.l1])
                    | succ k2 =>
                      have H := HA.out
                      clear HA
                      simp only [spec_ExprText.l1] at H
                      by_cases c29 : x7_2 < (((rd_T32 l0_0 x5_1).f3).length : Int)
                      · rw [if_pos c29] at H
                        have c29b0 : decide (x7_2 < (((rd_T32 l0_0 x5_1).f3).length : Int)) = true := decide_eq_true c29
                        clear c29
                        by_cases c30 : 0 ≤ x7_2
                        · rw [if_pos c30] at H
                          have c30b0 : decide (0 ≤ x7_2) = true := decide_eq_true c30
                          clear c30
                          obtain ⟨y279, hy279⟩ : ∃ y_ : List Int, y_ = (([(rd ((rd_T32 l0_0 x5_1).f3) x7_2) % 256] : List Int)) := ⟨_, rfl⟩
                          replace H : (if x4_2.size + (strOfNums y279).size ≤ 9223372036854775807 then (spec_ExprText.l1 k2 (x4_2 ++ (strOfNums y279)) x5_1 (wrap64 (x7_2 + 1)) l0_0 ((rd_T32 l0_0 x5_1).f0) ((rd_T32 l0_0 x5_1).f1) ((rd_T32 l0_0 x5_1).f2) ((rd_T32 l0_0 x5_1).f3)) else (none)) = some (r1, r2) := by first | (rw [hy279]; with_reducible exact H) | (have H2_ := (Option.bind_some _ _).symm.trans H; rw [hy279]; with_reducible exact H2_) | (have H2_ := (Option.bind_some _ _).symm.trans H; with_reducible exact H2_) | with_reducible exact H | (rw [hy279]; exact H) | exact H
                          have Ny279 := Aside0.mk hy279
                          clear hy279
                          by_cases c31 : x4_2.size + (strOfNums y279).size ≤ 9223372036854775807
                          · rw [if_pos c31] at H
                            have c31b0 := eq_true c31
                            have c31b1 : decide (x4_2.size + (strOfNums y279).size ≤ 9223372036854775807) = true := decide_eq_true c31
                            try have c31b2 : (9223372036854775807 < x4_2.size + (strOfNums y279).size) = False := eq_false (Nat.not_lt.2 c31)
                            have H' := Aside0.mk H
                            clear H
                            have hnb32 := NB272_268.out
                            have hnc32 := NB268_272.out
                            obtain ⟨hcz33_0, hcz33_1, hcz33_2, hcz33_3, hfz33_0, hfz33_1, hfz33_2, hfz33_3⟩ := bc4 BK272.out
                            have p278 : 0 ≤ (x7_2 : Int) := oa
                            have q278 : x7_2 < (((rd_T32 l0_0 x5_1).f3).length : Int) := oa
                            obtain ⟨ad278, e278, hx278_0⟩ := Kd.at_int HR271_3.out x7_2 p278 q278
                            cases e278
                            replace hx278_0 := hbc HB.out hx278_0
                            replace p278 := eq_true p278
                            replace q278 := eq_true q278
                            go_wp2_with (first | ((with_reducible refine gate_dst (N := 56) rfl ?_); refine Kd.R_lit (Kd.int .u8) _ 5 ?hg (N := 56) ?hd (xs := ([(rd ((rd_T32 l0_0 x5_1).f3) x7_2) % 256] : List Int)) (inner := [.int .u8 ((rd ((rd_T32 l0_0 x5_1).f3) x7_2) % 256)]) (ok := fun _ => True) (okp := fun _ => True) ?hr ?hp (fun _ hk => hk) trivial (Below.refl _ _) (Nat.le_refl _) (by simp) ?_; (case hd => rfl); (case hg => rfl); (case hr => first | (go_simp; done) | (go_simp; rfl)); (case hp => exact (Reps.one (show Kd.M (Kd.int .u8) _ _ _ ((rd ((rd_T32 l0_0 x5_1).f3) x7_2) % 256) [.int .u8 ((rd ((rd_T32 l0_0 x5_1).f3) x7_2) % 256)] from rfl) (Reps.none _ _))); intro v280 w34 ho35 hb hg_ hnew_; clear hg_ hnew_; (first | rw [← Ny279.out] at ho35 | (simp only [Int.reduceToNat] at ho35; rw [← Ny279.out] at ho35)); have n0_ := Aside0.mk (Kd.R_lower ho35 (below_size bw)); have n1_ := Aside0.mk (blk_below (g := gb268) (o := .cells #[.slice (some ad271) l0_0.length c0_0] 26 (0, 0)) bx hb); have n2_ := Aside0.mk (blk_below (g := gb272) (o := .cells #[.int .i64 ((rd_T32 l0_0 x5_1).f0), .int .i64 ((rd_T32 l0_0 x5_1).f1), .string ((rd_T32 l0_0 x5_1).f2), .slice (some ad278) ((rd_T32 l0_0 x5_1).f3).length c271_3] 32 (0, 0)) bx hb); have n3_ := Aside0.mk (below_step bw hb); clear BK268; clear BK272; clear HB; have HO281 := n0_; have BK268 := n1_; have BK272 := n2_; have HB := n3_; clear n0_ n1_ n2_ n3_; clear hb ho35; have hcv36 := own_string (P := Try.prog) Try.underlying22 Try.underlying5 Try.underlying9 (Kd.own_of_R HO281.out)))
                            go_roundg k2
                            case measure => have := HK1.out; have := HK2.out; omega
                            case rel => exact ⟨(x4_2 ++ (strOfNums y279)), (wrap64 (x7_2 + 1)), (by first | rfl | (simp; done) | (simp [*]; done) | (simp [isE0, isE1]; done)), (by first | rfl | (simp; done) | (simp [*]; done) | (simp [isE0, isE1]; done)), H', ⟨by have := HK1.out; have := HK2.out; omega⟩, ⟨by (with_reducible repeat (first | refine blk_drewN ?_ _ | refine blk_drew ?_ | refine blk_alloc ?_ _)); exact BK268.out⟩, ⟨by (with_reducible repeat (first | refine blk_drewN ?_ _ | refine blk_drew ?_ | refine blk_alloc ?_ _)); exact BK272.out⟩, ⟨by repeat (first | (with_reducible first | exact HB.out | apply below_alloc | apply pw_below_drewN | apply below_drew1 | refine below_set ?_ GE268.out | refine below_set ?_ GE272.out) | exact HB.out)⟩⟩
                          · rw [if_neg c31] at H
                            exact absurd H (by simp)
                        · rw [if_neg c30] at H
                          exact absurd H (by simp)
                      · rw [if_neg c29] at H
                        have c29b0 : decide (x7_2 < (((rd_T32 l0_0 x5_1).f3).length : Int)) = false := decide_eq_false c29
                        clear c29
                        have H' := Aside0.mk H
                        clear H
                        have hnb37 := NB272_268.out
                        have hnc37 := NB268_272.out
                        obtain ⟨hcz38_0, hcz38_1, hcz38_2, hcz38_3, hfz38_0, hfz38_1, hfz38_2, hfz38_3⟩ := bc4 BK272.out
                        go_wp2
                        go_roundg k2
                        case measure => have := HK1.out; have := HK2.out; omega
                        case rel => exact ⟨(x4_2), (wrap64 (x5_1 + 1)), (by first | rfl | (simp; done) | (simp [*]; done) | (simp [isE0, isE1]; done)), (by first | rfl | (simp; done) | (simp [*]; done) | (simp [isE0, isE1]; done)), H', ⟨by have := HK1.out; have := HK2.out; omega⟩, ⟨by (with_reducible repeat (first | refine blk_drewN ?_ _ | refine blk_drew ?_ | refine blk_alloc ?_ _)); exact BK268.out⟩, ⟨by repeat (first | (with_reducible first | exact HB.out | apply below_alloc | apply pw_below_drewN | apply below_drew1 | refine below_set ?_ GE268.out | refine below_set ?_ GE272.out) | exact HB.out)⟩⟩
                · rw [if_neg c16] at H
                  exact absurd H (by simp)
              · rw [if_neg c14] at H
                exact absurd H (by simp)
            · rw [if_neg c12] at H
              exact absurd H (by simp)
          · rw [if_neg c11] at H
            exact absurd H (by simp)
        · rw [if_neg c10] at H
          have c10b0 : decide (x5_1 < (l0_0.length : Int)) = false := decide_eq_false c10
          clear c10
          simp only [Option.some.injEq, Prod.mk.injEq] at H
          obtain ⟨rfl, rfl⟩ := H
          obtain ⟨hcz39_0, hfz39_0⟩ := bc1 BK268.out
          go_wp2
          go_ret2
          exact ⟨by first | rfl | (simp [errW_none, errW_some] <;> rfl) | (simp [*, errW_none, errW_some] <;> rfl), by repeat (first | (with_reducible first | exact HB.out | apply below_alloc | apply pw_below_drewN | apply below_drew1 | refine below_set ?_ GE268.out) | exact HB.out)⟩
  · replace c3 := Bool.eq_false_iff.mpr c3
    subst c3
    have H1 : (some ((⟨#[]⟩ : ByteArray), false)) = some (r1, r2) := by rw [if_neg (show ¬ (false = true) by decide)] at H; exact H
    clear H
    have H := H1
    clear H1
    simp only [Option.some.injEq, Prod.mk.injEq] at H
    obtain ⟨rfl, rfl⟩ := H
    go_enter Try.func18, Try.ntmps18
    go_wp2_with (first | ((with_reducible refine gate_dst (N := 1) rfl ?_); refine box_event ?hg (N := 1) ?hd (cs := #[.slice A0_0 l0_0.length c0_0]) (t := 26) ?hr ?_; (case hd => rfl); (case hg => rfl); (case hr => first | (go_simp; done) | (go_simp; rfl)); intro gb268 hg w40 hbox hb; have n0_ := Aside0.mk (below_step bw hb); have n1_ := Aside0.mk (hbox); have n2_ := Aside0.mk ((bz bw hg : w.heap.size ≤ gb268)); have n3_ := Aside0.mk ((bz bw hg : w.heap.size ≤ gb268)); clear HB; have HB := n0_; have BK268 := n1_; have GW268 := n2_; have GE268 := n3_; clear n0_ n1_ n2_ n3_; clear hb hbox hg; obtain ⟨hcz41_0, hfz41_0⟩ := bc1 BK268.out) | ((with_reducible refine gate_callee (f := 20) rfl ?_); refine goesL_ (some 9) rfl rfl Try.func20 (by kernel_rfl) rfl #[.agg #[.slice A0_0 l0_0.length c0_0]] rfl (by (try simp only [List.map_toArray, List.map_cons, List.map_nil]); first | done | rfl | (simp only [List.length_drop, List.length_take]; rfl)) ?_; (with_reducible refine (spec_ExprOk.calls k _ _ l0_0 false _ ?side1 ?side2 A2.out).mono ?_); (case side1 => exact kb); (case side2 => exact HC0_0.out); rintro e w42 ⟨rfl, hb⟩; refine ⟨_, rfl, ?_⟩; have n0_ := Aside0.mk (blk_below (g := gb268) (o := .cells #[.slice A0_0 l0_0.length c0_0] 26 (0, 0)) bx hb); have n1_ := Aside0.mk (below_step bw hb); clear BK268; clear HB; have BK268 := n0_; have HB := n1_; clear n0_ n1_; (try clear hb); (try clear hb2); (try clear hk); (try clear hi)))
    go_ret2
    exact ⟨by first | rfl | (simp [errW_none, errW_some] <;> rfl) | (simp [*, errW_none, errW_some] <;> rfl), by repeat (first | (with_reducible first | exact HB.out | apply below_alloc | apply pw_below_drewN | apply below_drew1 | refine below_set ?_ GE268.out) | exact HB.out)⟩

end Go.Proofs.Ytlkbdoejeomlmaa.PFnExprTexts
