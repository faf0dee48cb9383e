/- Written by a program of this session out of Lean's print of the translation: what the calls of these Go functions come to, in plain Lean. No condition. -/
import Derived.Test.YtlkbdoejeomlmaaPFnExprTextsx0
import Derived.Test.YtlkbdoejeomlmaaPFnExprTextsx1
import Derived.Test.YtlkbdoejeomlmaaPFnExprTextsx6
namespace Go.Proofs.Ytlkbdoejeomlmaa.PFnExprTexts
open Go.RowKit Go.Proofs.YtlkbdoejeomlmaaW.PrintWords Go.Proofs.YtlkbdoejeomlmaaW.PrintLast Go.Proofs.YtlkbdoejeomlmaaW.PrintMore
attribute [local go_sem] max2_int min2_int max_two min_two max_three min_three max_four min_four   -- for this text's walks alone
set_option linter.unusedVariables false
set_option linter.unusedSimpArgs false

/-! ### spec_ExprOk: function 20 -/
mutual
def spec_ExprOk.l0 : Nat → Int → List (S32) → Option (Bool)
  | 0, _, _ => none
  | k + 1, x3, x248000 => if x3 < (x248000.length : Int) then (if 0 ≤ x3 then ((spec_l01In.f ((rd_T32 x248000 x3).f0) 1 11).bind fun t251 => (if t251 = true then ((spec_l04Kids.f k ((rd_T32 x248000 x3).f0)).bind fun t252 => (spec_ExprOk.j1 k x3 ((((rd_T32 x248000 x3).f3).length : Int) != t252) x248000 ((rd_T32 x248000 x3).f0) ((rd_T32 x248000 x3).f1) ((rd_T32 x248000 x3).f2) ((rd_T32 x248000 x3).f3))) else (spec_ExprOk.j1 k x3 true x248000 ((rd_T32 x248000 x3).f0) ((rd_T32 x248000 x3).f1) ((rd_T32 x248000 x3).f2) ((rd_T32 x248000 x3).f3)))) else (none)) else ((spec_l01In.f (x248000.length : Int) 1 20).bind fun t248 => (some t248))
def spec_ExprOk.j1 : Nat → Int → Bool → List (S32) → Int → Int → ByteArray → List Int → Option (Bool)
  | 0, _, _, _, _, _, _, _ => none
  | k + 1, x3, x30, x248000, x251000, x251001, x251002, x251003 => if x30 = true then (some false) else (if x251000 = 1 then ((spec_l01In.f x251001 0 99).bind fun t253 => (if t253 = true then (if x251000 = 2 then ((spec_VarName.f k x251002).bind fun t254 => (if t254 = true then (spec_ExprOk.j2 k x3 false x248000 x251000 x251001 x251002 x251003) else (spec_ExprOk.j2 k x3 true x248000 x251000 x251001 x251002 x251003))) else (spec_ExprOk.j2 k x3 (x251002.toList != ([] : List UInt8)) x248000 x251000 x251001 x251002 x251003)) else (spec_ExprOk.j2 k x3 true x248000 x251000 x251001 x251002 x251003))) else (if x251001 = 0 then (if x251000 = 2 then ((spec_VarName.f k x251002).bind fun t255 => (if t255 = true then (spec_ExprOk.j2 k x3 false x248000 x251000 x251001 x251002 x251003) else (spec_ExprOk.j2 k x3 true x248000 x251000 x251001 x251002 x251003))) else (spec_ExprOk.j2 k x3 (x251002.toList != ([] : List UInt8)) x248000 x251000 x251001 x251002 x251003)) else (spec_ExprOk.j2 k x3 true x248000 x251000 x251001 x251002 x251003)))
def spec_ExprOk.j2 : Nat → Int → Bool → List (S32) → Int → Int → ByteArray → List Int → Option (Bool)
  | 0, _, _, _, _, _, _, _ => none
  | k + 1, x3, x70, x248000, x251000, x251001, x251002, x251003 => if x70 = true then (some false) else (spec_ExprOk.l1 k x3 0 x248000 x251000 x251001 x251002 x251003)
def spec_ExprOk.l1 : Nat → Int → Int → List (S32) → Int → Int → ByteArray → List Int → Option (Bool)
  | 0, _, _, _, _, _, _, _ => none
  | k + 1, x3, x5, x248000, x251000, x251001, x251002, x251003 => if x5 < (x251003.length : Int) then (if 0 ≤ x5 then ((spec_l01In.f (rd x251003 x5) 0 (wrap64 (x3 - 1))).bind fun t257 => (if t257 = true then (spec_ExprOk.l1 k x3 (wrap64 (x5 + 1)) x248000 x251000 x251001 x251002 x251003) else (some false))) else (none)) else (spec_ExprOk.l0 k (wrap64 (x3 + 1)) x248000)
end
def spec_ExprOk.f (k : Nat) (l0_0 : List (S32)) : Option (Bool) := spec_ExprOk.l0 k 0 l0_0
theorem spec_ExprOk.mono_l : ∀ k, (∀ y0 y1, LeO (spec_ExprOk.l0 k y0 y1) (spec_ExprOk.l0 (k + 1) y0 y1)) ∧ (∀ y0 y1 y2 y3 y4 y5 y6, LeO (spec_ExprOk.j1 k y0 y1 y2 y3 y4 y5 y6) (spec_ExprOk.j1 (k + 1) y0 y1 y2 y3 y4 y5 y6)) ∧ (∀ y0 y1 y2 y3 y4 y5 y6, LeO (spec_ExprOk.j2 k y0 y1 y2 y3 y4 y5 y6) (spec_ExprOk.j2 (k + 1) y0 y1 y2 y3 y4 y5 y6)) ∧ (∀ y0 y1 y2 y3 y4 y5 y6, LeO (spec_ExprOk.l1 k y0 y1 y2 y3 y4 y5 y6) (spec_ExprOk.l1 (k + 1) y0 y1 y2 y3 y4 y5 y6))
  | 0 => ⟨fun _ _ r h => by simp [spec_ExprOk.l0] at h, fun _ _ _ _ _ _ _ r h => by simp [spec_ExprOk.j1] at h, fun _ _ _ _ _ _ _ r h => by simp [spec_ExprOk.j2] at h, fun _ _ _ _ _ _ _ r h => by simp [spec_ExprOk.l1] at h⟩
  | k + 1 => by
    obtain ⟨ih0, ih1, ih2, ih3⟩ := spec_ExprOk.mono_l k
    refine ⟨?_, ?_, ?_, ?_⟩
    · intro y0 y1
      unfold spec_ExprOk.l0
      repeat' first
      | (with_reducible exact ih0 _ _)
      | (with_reducible exact ih1 _ _ _ _ _ _ _)
      | (with_reducible exact ih2 _ _ _ _ _ _ _)
      | (with_reducible exact ih3 _ _ _ _ _ _ _)
      | (with_reducible exact spec_VarName.mono _ _)
      | (with_reducible exact spec_l04Kids.mono _ _)
      | (with_reducible exact LeO.refl _)
      | (with_reducible exact LeO.none _)
      | (with_reducible refine LeO.ite ?_ ?_)
      | (with_reducible refine LeO.bind ?_ (fun _ => ?_))
      | exact ih0 _ _
      | exact ih1 _ _ _ _ _ _ _
      | exact ih2 _ _ _ _ _ _ _
      | exact ih3 _ _ _ _ _ _ _
      | exact spec_VarName.mono _ _
      | exact spec_l04Kids.mono _ _
      | exact LeO.none _
      | refine LeO.ite ?_ ?_
      | refine LeO.bind ?_ (fun _ => ?_)
    · intro y0 y1 y2 y3 y4 y5 y6
      unfold spec_ExprOk.j1
      repeat' first
      | (with_reducible exact ih0 _ _)
      | (with_reducible exact ih1 _ _ _ _ _ _ _)
      | (with_reducible exact ih2 _ _ _ _ _ _ _)
      | (with_reducible exact ih3 _ _ _ _ _ _ _)
      | (with_reducible exact spec_VarName.mono _ _)
      | (with_reducible exact spec_l04Kids.mono _ _)
      | (with_reducible exact LeO.refl _)
      | (with_reducible exact LeO.none _)
      | (with_reducible refine LeO.ite ?_ ?_)
      | (with_reducible refine LeO.bind ?_ (fun _ => ?_))
      | exact ih0 _ _
      | exact ih1 _ _ _ _ _ _ _
      | exact ih2 _ _ _ _ _ _ _
      | exact ih3 _ _ _ _ _ _ _
      | exact spec_VarName.mono _ _
      | exact spec_l04Kids.mono _ _
      | exact LeO.none _
      | refine LeO.ite ?_ ?_
      | refine LeO.bind ?_ (fun _ => ?_)
    · intro y0 y1 y2 y3 y4 y5 y6
      unfold spec_ExprOk.j2
      repeat' first
      | (with_reducible exact ih0 _ _)
      | (with_reducible exact ih1 _ _ _ _ _ _ _)
      | (with_reducible exact ih2 _ _ _ _ _ _ _)
      | (with_reducible exact ih3 _ _ _ _ _ _ _)
      | (with_reducible exact spec_VarName.mono _ _)
      | (with_reducible exact spec_l04Kids.mono _ _)
      | (with_reducible exact LeO.refl _)
      | (with_reducible exact LeO.none _)
      | (with_reducible refine LeO.ite ?_ ?_)
      | (with_reducible refine LeO.bind ?_ (fun _ => ?_))
      | exact ih0 _ _
      | exact ih1 _ _ _ _ _ _ _
      | exact ih2 _ _ _ _ _ _ _
      | exact ih3 _ _ _ _ _ _ _
      | exact spec_VarName.mono _ _
      | exact spec_l04Kids.mono _ _
      | exact LeO.none _
      | refine LeO.ite ?_ ?_
      | refine LeO.bind ?_ (fun _ => ?_)
    · intro y0 y1 y2 y3 y4 y5 y6
      unfold spec_ExprOk.l1
      repeat' first
      | (with_reducible exact ih0 _ _)
      | (with_reducible exact ih1 _ _ _ _ _ _ _)
      | (with_reducible exact ih2 _ _ _ _ _ _ _)
      | (with_reducible exact ih3 _ _ _ _ _ _ _)
      | (with_reducible exact spec_VarName.mono _ _)
      | (with_reducible exact spec_l04Kids.mono _ _)
      | (with_reducible exact LeO.refl _)
      | (with_reducible exact LeO.none _)
      | (with_reducible refine LeO.ite ?_ ?_)
      | (with_reducible refine LeO.bind ?_ (fun _ => ?_))
      | exact ih0 _ _
      | exact ih1 _ _ _ _ _ _ _
      | exact ih2 _ _ _ _ _ _ _
      | exact ih3 _ _ _ _ _ _ _
      | exact spec_VarName.mono _ _
      | exact spec_l04Kids.mono _ _
      | exact LeO.none _
      | refine LeO.ite ?_ ?_
      | refine LeO.bind ?_ (fun _ => ?_)
theorem spec_ExprOk.mono : ∀ a0 k, LeO (spec_ExprOk.f k a0) (spec_ExprOk.f (k + 1) a0) := by
  intro a0 k
  obtain ⟨ih0, ih1, ih2, ih3⟩ := spec_ExprOk.mono_l k
  unfold spec_ExprOk.f
  repeat' first
      | (with_reducible exact ih0 _ _)
      | (with_reducible exact ih1 _ _ _ _ _ _ _)
      | (with_reducible exact ih2 _ _ _ _ _ _ _)
      | (with_reducible exact ih3 _ _ _ _ _ _ _)
      | (with_reducible exact spec_VarName.mono _ _)
      | (with_reducible exact spec_l04Kids.mono _ _)
      | (with_reducible exact LeO.refl _)
      | (with_reducible exact LeO.none _)
      | (with_reducible refine LeO.ite ?_ ?_)
      | (with_reducible refine LeO.bind ?_ (fun _ => ?_))
      | exact ih0 _ _
      | exact ih1 _ _ _ _ _ _ _
      | exact ih2 _ _ _ _ _ _ _
      | exact ih3 _ _ _ _ _ _ _
      | exact spec_VarName.mono _ _
      | exact spec_l04Kids.mono _ _
      | exact LeO.none _
      | refine LeO.ite ?_ ?_
      | refine LeO.bind ?_ (fun _ => ?_)
set_option maxHeartbeats 8000000 in
set_option maxRecDepth 100000 in
theorem spec_ExprOk.calls (k : Nat) (A0_0 : Option Addr) (c0_0 : Nat) (l0_0 : List (S32)) (r : Bool) (w : World) (hr0_0 : Kd.C k32 w A0_0 l0_0.length l0_0) (hc0_0 : l0_0.length ≤ c0_0) (h : spec_ExprOk.f k l0_0 = some r) :
    Calls Try.prog 20 #[.agg #[.slice A0_0 l0_0.length c0_0]] w fun e w' => e = .returned (.bool r) ∧ Below w.heap.size w w' := by
  have hu26 := Try.underlying26
  have hu32 := Try.underlying32
  have HR0_0 := Aside0.mk hr0_0
  have HC0_0 := Aside0.mk hc0_0
  clear hr0_0 hc0_0
  have HB := Aside0.mk (Below.refl w.heap.size w)
  have H : (spec_ExprOk.l0 k 0 l0_0) = some r := h
  clear h
  have H' := Aside0.mk H
  clear H
  go_enter Try.func20, Try.ntmps20
  go_wp2_with (first | ((with_reducible refine gate_dst (N := 1) rfl ?_); (try (refine gate_guard (by rfl) ?_; dsimp only)); refine box_event ?hg (N := 1) ?hd (cs := #[.slice A0_0 l0_0.length c0_0]) (t := 26) ?hr ?_; (case hd => rfl); (case hg => rfl); (case hr => first | (go_simp; done) | (go_simp; rfl)); intro gb247 hg w2 hbox hb; have n0_ := Aside0.mk (below_step bw hb); have n1_ := Aside0.mk (hbox); have n2_ := Aside0.mk ((bz bw hg : w.heap.size ≤ gb247)); have n3_ := Aside0.mk ((bz bw hg : w.heap.size ≤ gb247)); clear HB; have HB := n0_; have BK247 := n1_; have GW247 := n2_; have GE247 := n3_; clear n0_ n1_ n2_ n3_; clear hb hbox hg))
  repeat (go_quiet (first | ((with_reducible refine gate_dst (N := 1) rfl ?_); (try (refine gate_guard (by rfl) ?_; dsimp only)); refine box_event ?hg (N := 1) ?hd (cs := #[.slice A0_0 l0_0.length c0_0]) (t := 26) ?hr ?_; (case hd => rfl); (case hg => rfl); (case hr => first | (go_simp; done) | (go_simp; rfl)); intro gb247 hg w2 hbox hb; have n0_ := Aside0.mk (below_step bw hb); have n1_ := Aside0.mk (hbox); have n2_ := Aside0.mk ((bz bw hg : w.heap.size ≤ gb247)); have n3_ := Aside0.mk ((bz bw hg : w.heap.size ≤ gb247)); clear HB; have HB := n0_; have BK247 := n1_; have GW247 := n2_; have GE247 := n3_; clear n0_ n1_ n2_ n3_; clear hb hbox hg)); try go_wp2_with (first | ((with_reducible refine gate_dst (N := 1) rfl ?_); (try (refine gate_guard (by rfl) ?_; dsimp only)); refine box_event ?hg (N := 1) ?hd (cs := #[.slice A0_0 l0_0.length c0_0]) (t := 26) ?hr ?_; (case hd => rfl); (case hg => rfl); (case hr => first | (go_simp; done) | (go_simp; rfl)); intro gb247 hg w2 hbox hb; have n0_ := Aside0.mk (below_step bw hb); have n1_ := Aside0.mk (hbox); have n2_ := Aside0.mk ((bz bw hg : w.heap.size ≤ gb247)); have n3_ := Aside0.mk ((bz bw hg : w.heap.size ≤ gb247)); clear HB; have HB := n0_; have BK247 := n1_; have GW247 := n2_; have GE247 := n3_; clear n0_ n1_ n2_ n3_; clear hb hbox hg)))
  go_loopg [3] k (fun kq v3 w' => ∃ (x3_1 : Int), v3 = .int .i64 x3_1 ∧ Aside0 (spec_ExprOk.l0 kq x3_1 l0_0 = some r) ∧ Aside0 (kq ≤ k) ∧ Aside0 (w'.heap[gb247]? = some (.cells #[(.slice A0_0 l0_0.length c0_0)] 26 (0, 0))) ∧ Aside0 (Below w.heap.size w w'))
  case atStart => exact ⟨(0), (by first | rfl | (simp; done) | (simp [*]; done) | (simp [isE0, isE1]; done)), H', ⟨Nat.le_refl _⟩, ⟨by (with_reducible repeat (first | refine blk_drewN ?_ _ | refine blk_drew ?_ | refine blk_alloc ?_ _)); exact BK247.out⟩, ⟨by repeat (first | (with_reducible first | exact HB.out | apply below_alloc | apply pw_below_drewN | apply below_drew1 | refine below_set ?_ GE247.out) | exact HB.out)⟩⟩
  case round =>
    clear H'
    try clear c2
    try clear p2
    obtain ⟨x3_1, rfl, HA, HK1, BK247, HB⟩ := hrel
    cases gk with
    | zero => exact absurd HA.out (by simp [spec_ExprOk.l0])
    | succ k1 =>
      have H := HA.out
      clear HA
      simp only [spec_ExprOk.l0] at H
      by_cases c3 : x3_1 < (l0_0.length : Int)
      · rw [if_pos c3] at H
        have c3b0 : decide (x3_1 < (l0_0.length : Int)) = true := decide_eq_true c3
        clear c3
        by_cases c4 : 0 ≤ x3_1
        · rw [if_pos c4] at H
          have c4b0 : decide (0 ≤ x3_1) = true := decide_eq_true c4
          clear c4
          have HC5 := Aside0.mk H
          clear H
          obtain ⟨hcz6_0, hfz6_0⟩ := bc1 BK247.out
          have p249 : 0 ≤ (x3_1 : Int) := oa
          have q249 : x3_1 < (l0_0.length : Int) := oa
          obtain ⟨ad249, A249_3, c249_3, e249, hx249_0, hx249_1, hx249_2, hx249_3, hl249_3, hi249_3⟩ := at_T32 HR0_0.out x3_1 p249 q249
          cases e249
          replace hx249_0 := hbc HB.out hx249_0
          replace hx249_1 := hbc HB.out hx249_1
          replace hx249_2 := hbc HB.out hx249_2
          replace hx249_3 := hbc HB.out hx249_3
          have HR249_3 := Aside0.mk hi249_3
          have HC249_3 := Aside0.mk hl249_3
          clear hi249_3 hl249_3
          replace p249 := eq_true p249
          replace q249 := eq_true q249
          go_upto_region 5 with (first | ((with_reducible refine gate_dst (N := 4) rfl ?_); (try (refine gate_guard (by rfl) ?_; dsimp only)); refine box_event ?hg (N := 4) ?hd (cs := #[.int .i64 0, .int .i64 0, .string (⟨#[]⟩ : ByteArray), .slice none 0 0]) (t := 32) ?hr ?_; (case hd => rfl); (case hg => rfl); (case hr => first | (go_simp; done) | (go_simp; rfl)); intro gb250 hg w7 hbox hb; have n0_ := Aside0.mk (blk_below (g := gb247) (o := .cells #[.slice (some ad249) l0_0.length c0_0] 26 (0, 0)) bx hb); have n1_ := Aside0.mk (below_step bw hb); have n2_ := Aside0.mk (hbox); have n3_ := Aside0.mk ((bz bw hg : w.heap.size ≤ gb250)); have n4_ := Aside0.mk ((bz bw hg : w.heap.size ≤ gb250)); have n5_ := Aside0.mk ((bl bx hg : gb247 ≠ gb250)); have n6_ := Aside0.mk ((bl' bx hg : gb250 ≠ gb247)); clear BK247; clear HB; have BK247 := n0_; have HB := n1_; have BK250 := n2_; have GW250 := n3_; have GE250 := n4_; have NB247_250 := n5_; have NB250_247 := n6_; clear n0_ n1_ n2_ n3_ n4_ n5_ n6_; clear hb hbox hg; have hnb8 := NB250_247.out; have hnc8 := NB247_250.out; obtain ⟨hcz9_0, hcz9_1, hcz9_2, hcz9_3, hfz9_0, hfz9_1, hfz9_2, hfz9_3⟩ := bc4 BK250.out))
          repeat (go_quiet (first | ((with_reducible refine gate_dst (N := 4) rfl ?_); (try (refine gate_guard (by rfl) ?_; dsimp only)); refine box_event ?hg (N := 4) ?hd (cs := #[.int .i64 0, .int .i64 0, .string (⟨#[]⟩ : ByteArray), .slice none 0 0]) (t := 32) ?hr ?_; (case hd => rfl); (case hg => rfl); (case hr => first | (go_simp; done) | (go_simp; rfl)); intro gb250 hg w7 hbox hb; have n0_ := Aside0.mk (blk_below (g := gb247) (o := .cells #[.slice (some ad249) l0_0.length c0_0] 26 (0, 0)) bx hb); have n1_ := Aside0.mk (below_step bw hb); have n2_ := Aside0.mk (hbox); have n3_ := Aside0.mk ((bz bw hg : w.heap.size ≤ gb250)); have n4_ := Aside0.mk ((bz bw hg : w.heap.size ≤ gb250)); have n5_ := Aside0.mk ((bl bx hg : gb247 ≠ gb250)); have n6_ := Aside0.mk ((bl' bx hg : gb250 ≠ gb247)); clear BK247; clear HB; have BK247 := n0_; have HB := n1_; have BK250 := n2_; have GW250 := n3_; have GE250 := n4_; have NB247_250 := n5_; have NB250_247 := n6_; clear n0_ n1_ n2_ n3_ n4_ n5_ n6_; clear hb hbox hg; have hnb8 := NB250_247.out; have hnc8 := NB247_250.out; obtain ⟨hcz9_0, hcz9_1, hcz9_2, hcz9_3, hfz9_0, hfz9_1, hfz9_2, hfz9_3⟩ := bc4 BK250.out)); go_upto_region 5 with (first | ((with_reducible refine gate_dst (N := 4) rfl ?_); (try (refine gate_guard (by rfl) ?_; dsimp only)); refine box_event ?hg (N := 4) ?hd (cs := #[.int .i64 0, .int .i64 0, .string (⟨#[]⟩ : ByteArray), .slice none 0 0]) (t := 32) ?hr ?_; (case hd => rfl); (case hg => rfl); (case hr => first | (go_simp; done) | (go_simp; rfl)); intro gb250 hg w7 hbox hb; have n0_ := Aside0.mk (blk_below (g := gb247) (o := .cells #[.slice (some ad249) l0_0.length c0_0] 26 (0, 0)) bx hb); have n1_ := Aside0.mk (below_step bw hb); have n2_ := Aside0.mk (hbox); have n3_ := Aside0.mk ((bz bw hg : w.heap.size ≤ gb250)); have n4_ := Aside0.mk ((bz bw hg : w.heap.size ≤ gb250)); have n5_ := Aside0.mk ((bl bx hg : gb247 ≠ gb250)); have n6_ := Aside0.mk ((bl' bx hg : gb250 ≠ gb247)); clear BK247; clear HB; have BK247 := n0_; have HB := n1_; have BK250 := n2_; have GW250 := n3_; have GE250 := n4_; have NB247_250 := n5_; have NB250_247 := n6_; clear n0_ n1_ n2_ n3_ n4_ n5_ n6_; clear hb hbox hg; have hnb8 := NB250_247.out; have hnc8 := NB247_250.out; obtain ⟨hcz9_0, hcz9_1, hcz9_2, hcz9_3, hfz9_0, hfz9_1, hfz9_2, hfz9_3⟩ := bc4 BK250.out)))
          (try simp only [Act.put, List.setIfInBounds_toArray, List.set_cons_zero, List.set_cons_succ])
          go_cut [30] (fun v30 wc => ∃ (kq : Nat) (x30_4 : Bool), v30 = .bool x30_4 ∧ Aside0 (spec_ExprOk.j1 kq x3_1 x30_4 l0_0 ((rd_T32 l0_0 x3_1).f0) ((rd_T32 l0_0 x3_1).f1) ((rd_T32 l0_0 x3_1).f2) ((rd_T32 l0_0 x3_1).f3) = some r) ∧ Aside0 (kq ≤ k1) ∧ Aside0 (wc.heap[gb247]? = some (.cells #[(.slice (some ad249) l0_0.length c0_0)] 26 (0, 0))) ∧ Aside0 (wc.heap[gb250]? = some (.cells #[.int .i64 ((rd_T32 l0_0 x3_1).f0), .int .i64 ((rd_T32 l0_0 x3_1).f1), .string ((rd_T32 l0_0 x3_1).f2), (.slice A249_3 ((rd_T32 l0_0 x3_1).f3).length c249_3)] 32 (0, 0))) ∧ Aside0 (Below w.heap.size w wc))
          case first =>
            have H := HC5.out
            clear HC5
            replace H := Option.bind_eq_some_iff.mp H
            obtain ⟨t251, A100, H⟩ := H
            replace H : (if t251 = true then ((spec_l04Kids.f k1 ((rd_T32 l0_0 x3_1).f0)).bind fun t252 => (spec_ExprOk.j1 k1 x3_1 ((((rd_T32 l0_0 x3_1).f3).length : Int) != t252) l0_0 ((rd_T32 l0_0 x3_1).f0) ((rd_T32 l0_0 x3_1).f1) ((rd_T32 l0_0 x3_1).f2) ((rd_T32 l0_0 x3_1).f3))) else (spec_ExprOk.j1 k1 x3_1 true l0_0 ((rd_T32 l0_0 x3_1).f0) ((rd_T32 l0_0 x3_1).f1) ((rd_T32 l0_0 x3_1).f2) ((rd_T32 l0_0 x3_1).f3))) = some r := H
            have A10 := Aside0.mk A100
            clear A100
            by_cases c11 : t251 = true
            · subst c11
              have H1 : ((spec_l04Kids.f k1 ((rd_T32 l0_0 x3_1).f0)).bind fun t252 => (spec_ExprOk.j1 k1 x3_1 ((((rd_T32 l0_0 x3_1).f3).length : Int) != t252) l0_0 ((rd_T32 l0_0 x3_1).f0) ((rd_T32 l0_0 x3_1).f1) ((rd_T32 l0_0 x3_1).f2) ((rd_T32 l0_0 x3_1).f3))) = some r := by rw [if_pos rfl] at H; exact H
              clear H
              have H := H1
              clear H1
              replace H := Option.bind_eq_some_iff.mp H
              obtain ⟨t252, A120, H⟩ := H
              replace H : (spec_ExprOk.j1 k1 x3_1 ((((rd_T32 l0_0 x3_1).f3).length : Int) != t252) l0_0 ((rd_T32 l0_0 x3_1).f0) ((rd_T32 l0_0 x3_1).f1) ((rd_T32 l0_0 x3_1).f2) ((rd_T32 l0_0 x3_1).f3)) = some r := H
              have A12 := Aside0.mk A120
              clear A120
              have H' := Aside0.mk H
              clear H
              have hnb13 := NB250_247.out
              have hnc13 := NB247_250.out
              obtain ⟨hcz14_0, hcz14_1, hcz14_2, hcz14_3, hfz14_0, hfz14_1, hfz14_2, hfz14_3⟩ := bc4 BK250.out
              go_wp2_with (first | (go_at_call 70; (with_reducible refine (spec_l01In.calls ((rd_T32 l0_0 x3_1).f0) 1 11 true _ A10.out).mono ?_); rintro e w' ⟨rfl, ⟨nd, rfl⟩⟩; (try first | exact ⟨rfl, _, World.drewN_drewN _ _ _⟩ | exact ⟨rfl, _, Eq.trans (World.drewN_drewN _ _ _) (congrArg (World.drewN _) (Nat.add_assoc _ _ _))⟩)) | (go_at_call 71; (with_reducible refine (spec_l04Kids.calls k1 ((rd_T32 l0_0 x3_1).f0) t252 _ A12.out).mono ?_); rintro e w' ⟨rfl, ⟨nd, rfl⟩⟩; (try first | exact ⟨rfl, _, World.drewN_drewN _ _ _⟩ | exact ⟨rfl, _, Eq.trans (World.drewN_drewN _ _ _) (congrArg (World.drewN _) (Nat.add_assoc _ _ _))⟩)))
              repeat (go_quiet (first | (go_at_call 70; (with_reducible refine (spec_l01In.calls ((rd_T32 l0_0 x3_1).f0) 1 11 true _ A10.out).mono ?_); rintro e w' ⟨rfl, ⟨nd, rfl⟩⟩; (try first | exact ⟨rfl, _, World.drewN_drewN _ _ _⟩ | exact ⟨rfl, _, Eq.trans (World.drewN_drewN _ _ _) (congrArg (World.drewN _) (Nat.add_assoc _ _ _))⟩)) | (go_at_call 71; (with_reducible refine (spec_l04Kids.calls k1 ((rd_T32 l0_0 x3_1).f0) t252 _ A12.out).mono ?_); rintro e w' ⟨rfl, ⟨nd, rfl⟩⟩; (try first | exact ⟨rfl, _, World.drewN_drewN _ _ _⟩ | exact ⟨rfl, _, Eq.trans (World.drewN_drewN _ _ _) (congrArg (World.drewN _) (Nat.add_assoc _ _ _))⟩))); try go_wp2_with (first | (go_at_call 70; (with_reducible refine (spec_l01In.calls ((rd_T32 l0_0 x3_1).f0) 1 11 true _ A10.out).mono ?_); rintro e w' ⟨rfl, ⟨nd, rfl⟩⟩; (try first | exact ⟨rfl, _, World.drewN_drewN _ _ _⟩ | exact ⟨rfl, _, Eq.trans (World.drewN_drewN _ _ _) (congrArg (World.drewN _) (Nat.add_assoc _ _ _))⟩)) | (go_at_call 71; (with_reducible refine (spec_l04Kids.calls k1 ((rd_T32 l0_0 x3_1).f0) t252 _ A12.out).mono ?_); rintro e w' ⟨rfl, ⟨nd, rfl⟩⟩; (try first | exact ⟨rfl, _, World.drewN_drewN _ _ _⟩ | exact ⟨rfl, _, Eq.trans (World.drewN_drewN _ _ _) (congrArg (World.drewN _) (Nat.add_assoc _ _ _))⟩))))
              go_meet
              case rel => exact ⟨_, (((((rd_T32 l0_0 x3_1).f3).length : Int) != t252)), (by first | rfl | (simp; done) | (simp [*]; done) | (simp [isE0, isE1]; done)), H', ⟨by have := HK1.out; first | omega | exact Nat.le_refl _⟩, ⟨by (with_reducible repeat (first | refine blk_drewN ?_ _ | refine blk_drew ?_ | refine blk_alloc ?_ _)); refine blk_far ?_ NB247_250.out _; (with_reducible repeat (first | refine blk_drewN ?_ _ | refine blk_drew ?_ | refine blk_alloc ?_ _)); refine blk_far ?_ NB247_250.out _; (with_reducible repeat (first | refine blk_drewN ?_ _ | refine blk_drew ?_ | refine blk_alloc ?_ _)); refine blk_far ?_ NB247_250.out _; (with_reducible repeat (first | refine blk_drewN ?_ _ | refine blk_drew ?_ | refine blk_alloc ?_ _)); refine blk_far ?_ NB247_250.out _; (with_reducible repeat (first | refine blk_drewN ?_ _ | refine blk_drew ?_ | refine blk_alloc ?_ _)); exact BK247.out⟩, ⟨by (with_reducible repeat (first | refine blk_drewN ?_ _ | refine blk_drew ?_ | refine blk_alloc ?_ _)); refine blk_put (cs := #[.int .i64 ((rd_T32 l0_0 x3_1).f0), .int .i64 ((rd_T32 l0_0 x3_1).f1), .string ((rd_T32 l0_0 x3_1).f2), .slice none 0 0]) ?_ 3 _ rfl; (with_reducible repeat (first | refine blk_drewN ?_ _ | refine blk_drew ?_ | refine blk_alloc ?_ _)); refine blk_put (cs := #[.int .i64 ((rd_T32 l0_0 x3_1).f0), .int .i64 ((rd_T32 l0_0 x3_1).f1), .string (⟨#[]⟩ : ByteArray), .slice none 0 0]) ?_ 2 _ rfl; (with_reducible repeat (first | refine blk_drewN ?_ _ | refine blk_drew ?_ | refine blk_alloc ?_ _)); refine blk_put (cs := #[.int .i64 ((rd_T32 l0_0 x3_1).f0), .int .i64 0, .string (⟨#[]⟩ : ByteArray), .slice none 0 0]) ?_ 1 _ rfl; (with_reducible repeat (first | refine blk_drewN ?_ _ | refine blk_drew ?_ | refine blk_alloc ?_ _)); refine blk_put (cs := #[.int .i64 0, .int .i64 0, .string (⟨#[]⟩ : ByteArray), .slice none 0 0]) ?_ 0 _ rfl; (with_reducible repeat (first | refine blk_drewN ?_ _ | refine blk_drew ?_ | refine blk_alloc ?_ _)); exact BK250.out⟩, ⟨by repeat (first | (with_reducible first | exact HB.out | apply below_alloc | apply pw_below_drewN | apply below_drew1 | refine below_set ?_ GE247.out | refine below_set ?_ GE250.out) | exact HB.out)⟩⟩
            · replace c11 := Bool.eq_false_iff.mpr c11
              subst c11
              have H1 : (spec_ExprOk.j1 k1 x3_1 true l0_0 ((rd_T32 l0_0 x3_1).f0) ((rd_T32 l0_0 x3_1).f1) ((rd_T32 l0_0 x3_1).f2) ((rd_T32 l0_0 x3_1).f3)) = some r := by rw [if_neg (show ¬ (false = true) by decide)] at H; exact H
              clear H
              have H := H1
              clear H1
              have H' := Aside0.mk H
              clear H
              have hnb15 := NB250_247.out
              have hnc15 := NB247_250.out
              obtain ⟨hcz16_0, hcz16_1, hcz16_2, hcz16_3, hfz16_0, hfz16_1, hfz16_2, hfz16_3⟩ := bc4 BK250.out
              go_wp2_with (first | (go_at_call 70; (with_reducible refine (spec_l01In.calls ((rd_T32 l0_0 x3_1).f0) 1 11 false _ A10.out).mono ?_); rintro e w' ⟨rfl, ⟨nd, rfl⟩⟩; (try first | exact ⟨rfl, _, World.drewN_drewN _ _ _⟩ | exact ⟨rfl, _, Eq.trans (World.drewN_drewN _ _ _) (congrArg (World.drewN _) (Nat.add_assoc _ _ _))⟩)))
              repeat (go_quiet (first | (go_at_call 70; (with_reducible refine (spec_l01In.calls ((rd_T32 l0_0 x3_1).f0) 1 11 false _ A10.out).mono ?_); rintro e w' ⟨rfl, ⟨nd, rfl⟩⟩; (try first | exact ⟨rfl, _, World.drewN_drewN _ _ _⟩ | exact ⟨rfl, _, Eq.trans (World.drewN_drewN _ _ _) (congrArg (World.drewN _) (Nat.add_assoc _ _ _))⟩))); try go_wp2_with (first | (go_at_call 70; (with_reducible refine (spec_l01In.calls ((rd_T32 l0_0 x3_1).f0) 1 11 false _ A10.out).mono ?_); rintro e w' ⟨rfl, ⟨nd, rfl⟩⟩; (try first | exact ⟨rfl, _, World.drewN_drewN _ _ _⟩ | exact ⟨rfl, _, Eq.trans (World.drewN_drewN _ _ _) (congrArg (World.drewN _) (Nat.add_assoc _ _ _))⟩))))
              go_meet
              case rel => exact ⟨_, (true), (by first | rfl | (simp; done) | (simp [*]; done) | (simp [isE0, isE1]; done)), H', ⟨by have := HK1.out; first | omega | exact Nat.le_refl _⟩, ⟨by (with_reducible repeat (first | refine blk_drewN ?_ _ | refine blk_drew ?_ | refine blk_alloc ?_ _)); refine blk_far ?_ NB247_250.out _; (with_reducible repeat (first | refine blk_drewN ?_ _ | refine blk_drew ?_ | refine blk_alloc ?_ _)); refine blk_far ?_ NB247_250.out _; (with_reducible repeat (first | refine blk_drewN ?_ _ | refine blk_drew ?_ | refine blk_alloc ?_ _)); refine blk_far ?_ NB247_250.out _; (with_reducible repeat (first | refine blk_drewN ?_ _ | refine blk_drew ?_ | refine blk_alloc ?_ _)); refine blk_far ?_ NB247_250.out _; (with_reducible repeat (first | refine blk_drewN ?_ _ | refine blk_drew ?_ | refine blk_alloc ?_ _)); exact BK247.out⟩, ⟨by (with_reducible repeat (first | refine blk_drewN ?_ _ | refine blk_drew ?_ | refine blk_alloc ?_ _)); refine blk_put (cs := #[.int .i64 ((rd_T32 l0_0 x3_1).f0), .int .i64 ((rd_T32 l0_0 x3_1).f1), .string ((rd_T32 l0_0 x3_1).f2), .slice none 0 0]) ?_ 3 _ rfl; (with_reducible repeat (first | refine blk_drewN ?_ _ | refine blk_drew ?_ | refine blk_alloc ?_ _)); refine blk_put (cs := #[.int .i64 ((rd_T32 l0_0 x3_1).f0), .int .i64 ((rd_T32 l0_0 x3_1).f1), .string (⟨#[]⟩ : ByteArray), .slice none 0 0]) ?_ 2 _ rfl; (with_reducible repeat (first | refine blk_drewN ?_ _ | refine blk_drew ?_ | refine blk_alloc ?_ _)); refine blk_put (cs := #[.int .i64 ((rd_T32 l0_0 x3_1).f0), .int .i64 0, .string (⟨#[]⟩ : ByteArray), .slice none 0 0]) ?_ 1 _ rfl; (with_reducible repeat (first | refine blk_drewN ?_ _ | refine blk_drew ?_ | refine blk_alloc ?_ _)); refine blk_put (cs := #[.int .i64 0, .int .i64 0, .string (⟨#[]⟩ : ByteArray), .slice none 0 0]) ?_ 0 _ rfl; (with_reducible repeat (first | refine blk_drewN ?_ _ | refine blk_drew ?_ | refine blk_alloc ?_ _)); exact BK250.out⟩, ⟨by repeat (first | (with_reducible first | exact HB.out | apply below_alloc | apply pw_below_drewN | apply below_drew1 | refine below_set ?_ GE247.out | refine below_set ?_ GE250.out) | exact HB.out)⟩⟩
          case rest =>
            clear HC5
            try clear c1
            try clear c2
            try clear p2
            try clear q2
            try clear hx2
            try clear c3
            try clear c3b0
            try clear c4
            try clear c4b0
            try clear c8
            try clear c11
            try clear c13
            try clear c15
            try clear hcz14_0
            try clear hcz14_1
            try clear hcz14_2
            try clear hcz14_3
            try clear hcz16_0
            try clear hcz16_1
            try clear hcz16_2
            try clear hcz16_3
            try clear hcz6_0
            try clear hcz9_0
            try clear hcz9_1
            try clear hcz9_2
            try clear hcz9_3
            try clear hfz14_0
            try clear hfz14_1
            try clear hfz14_2
            try clear hfz14_3
            try clear hfz16_0
            try clear hfz16_1
            try clear hfz16_2
            try clear hfz16_3
            try clear hfz6_0
            try clear hfz9_0
            try clear hfz9_1
            try clear hfz9_2
            try clear hfz9_3
            try clear hx249_0
            try clear hx249_1
            try clear hx249_2
            try clear hx249_3
            try clear p2
            try clear p249
            try clear q249
            obtain ⟨kq, x30_4, rfl, HA, HJ4, BK247, BK250, HB⟩ := hcut
            cases kq with
            | zero => exact absurd HA.out (by simp [spec_ExprOk.j1])
            | succ kj4 =>
              have H := HA.out
              clear HA
              simp only [spec_ExprOk.j1] at H
              by_cases c17 : x30_4 = true
              · subst c17
                have H1 : (some false) = some r := by rw [if_pos rfl] at H; exact H
                clear H
                have H := H1
                clear H1
                obtain rfl := Option.some.inj H
                go_wp2
                repeat (go_quiet (fail); try go_wp2)
                go_ret
                exact ⟨by first | rfl | (simp [errW_none, errW_some] <;> rfl) | (simp [*, errW_none, errW_some] <;> rfl), by repeat (first | (with_reducible first | exact HB.out | apply below_alloc | apply pw_below_drewN | apply below_drew1 | refine below_set ?_ GE247.out | refine below_set ?_ GE250.out) | exact HB.out)⟩
              · replace c17 := Bool.eq_false_iff.mpr c17
                subst c17
                have H1 : (if ((rd_T32 l0_0 x3_1).f0) = 1 then ((spec_l01In.f ((rd_T32 l0_0 x3_1).f1) 0 99).bind fun t253 => (if t253 = true then (if ((rd_T32 l0_0 x3_1).f0) = 2 then ((spec_VarName.f kj4 ((rd_T32 l0_0 x3_1).f2)).bind fun t254 => (if t254 = true then (spec_ExprOk.j2 kj4 x3_1 false l0_0 ((rd_T32 l0_0 x3_1).f0) ((rd_T32 l0_0 x3_1).f1) ((rd_T32 l0_0 x3_1).f2) ((rd_T32 l0_0 x3_1).f3)) else (spec_ExprOk.j2 kj4 x3_1 true l0_0 ((rd_T32 l0_0 x3_1).f0) ((rd_T32 l0_0 x3_1).f1) ((rd_T32 l0_0 x3_1).f2) ((rd_T32 l0_0 x3_1).f3)))) else (spec_ExprOk.j2 kj4 x3_1 (((rd_T32 l0_0 x3_1).f2).toList != ([] : List UInt8)) l0_0 ((rd_T32 l0_0 x3_1).f0) ((rd_T32 l0_0 x3_1).f1) ((rd_T32 l0_0 x3_1).f2) ((rd_T32 l0_0 x3_1).f3))) else (spec_ExprOk.j2 kj4 x3_1 true l0_0 ((rd_T32 l0_0 x3_1).f0) ((rd_T32 l0_0 x3_1).f1) ((rd_T32 l0_0 x3_1).f2) ((rd_T32 l0_0 x3_1).f3)))) else (if ((rd_T32 l0_0 x3_1).f1) = 0 then (if ((rd_T32 l0_0 x3_1).f0) = 2 then ((spec_VarName.f kj4 ((rd_T32 l0_0 x3_1).f2)).bind fun t255 => (if t255 = true then (spec_ExprOk.j2 kj4 x3_1 false l0_0 ((rd_T32 l0_0 x3_1).f0) ((rd_T32 l0_0 x3_1).f1) ((rd_T32 l0_0 x3_1).f2) ((rd_T32 l0_0 x3_1).f3)) else (spec_ExprOk.j2 kj4 x3_1 true l0_0 ((rd_T32 l0_0 x3_1).f0) ((rd_T32 l0_0 x3_1).f1) ((rd_T32 l0_0 x3_1).f2) ((rd_T32 l0_0 x3_1).f3)))) else (spec_ExprOk.j2 kj4 x3_1 (((rd_T32 l0_0 x3_1).f2).toList != ([] : List UInt8)) l0_0 ((rd_T32 l0_0 x3_1).f0) ((rd_T32 l0_0 x3_1).f1) ((rd_T32 l0_0 x3_1).f2) ((rd_T32 l0_0 x3_1).f3))) else (spec_ExprOk.j2 kj4 x3_1 true l0_0 ((rd_T32 l0_0 x3_1).f0) ((rd_T32 l0_0 x3_1).f1) ((rd_T32 l0_0 x3_1).f2) ((rd_T32 l0_0 x3_1).f3)))) = some r := by rw [if_neg (show ¬ (false = true) by decide)] at H; exact H
                clear H
                have H := H1
                clear H1
                have HC18 := Aside0.mk H
                clear H
                go_upto_region 7 with (fail)
                repeat (go_quiet (fail); go_upto_region 7 with (fail))
                go_cut [70] (fun v70 wc => ∃ (kq : Nat) (x70_17 : Bool), v70 = .bool x70_17 ∧ Aside0 (spec_ExprOk.j2 kq x3_1 x70_17 l0_0 ((rd_T32 l0_0 x3_1).f0) ((rd_T32 l0_0 x3_1).f1) ((rd_T32 l0_0 x3_1).f2) ((rd_T32 l0_0 x3_1).f3) = some r) ∧ Aside0 (kq ≤ kj4) ∧ Aside0 (wc.heap[gb247]? = some (.cells #[(.slice (some ad249) l0_0.length c0_0)] 26 (0, 0))) ∧ Aside0 (wc.heap[gb250]? = some (.cells #[.int .i64 ((rd_T32 l0_0 x3_1).f0), .int .i64 ((rd_T32 l0_0 x3_1).f1), .string ((rd_T32 l0_0 x3_1).f2), (.slice A249_3 ((rd_T32 l0_0 x3_1).f3).length c249_3)] 32 (0, 0))) ∧ Aside0 (Below w.heap.size w wc))
                case first =>
                  have H := HC18.out
                  clear HC18
                  by_cases c19 : ((rd_T32 l0_0 x3_1).f0) = 1
                  · rw [if_pos c19] at H
                    have c19b0 : (((rd_T32 l0_0 x3_1).f0) == 1) = true := beq_iff_eq.mpr c19
                    have c19b1 : (((rd_T32 l0_0 x3_1).f0) != 1) = false := bne_eq_false_iff_eq.mpr c19
                    clear c19
                    (first | rw [c19b0] | (simp only [i64_w, i32_w]; rw [c19b0]) | skip)
                    replace H := Option.bind_eq_some_iff.mp H
                    obtain ⟨t253, A200, H⟩ := H
                    replace H : (if t253 = true then (if ((rd_T32 l0_0 x3_1).f0) = 2 then ((spec_VarName.f kj4 ((rd_T32 l0_0 x3_1).f2)).bind fun t254 => (if t254 = true then (spec_ExprOk.j2 kj4 x3_1 false l0_0 ((rd_T32 l0_0 x3_1).f0) ((rd_T32 l0_0 x3_1).f1) ((rd_T32 l0_0 x3_1).f2) ((rd_T32 l0_0 x3_1).f3)) else (spec_ExprOk.j2 kj4 x3_1 true l0_0 ((rd_T32 l0_0 x3_1).f0) ((rd_T32 l0_0 x3_1).f1) ((rd_T32 l0_0 x3_1).f2) ((rd_T32 l0_0 x3_1).f3)))) else (spec_ExprOk.j2 kj4 x3_1 (((rd_T32 l0_0 x3_1).f2).toList != ([] : List UInt8)) l0_0 ((rd_T32 l0_0 x3_1).f0) ((rd_T32 l0_0 x3_1).f1) ((rd_T32 l0_0 x3_1).f2) ((rd_T32 l0_0 x3_1).f3))) else (spec_ExprOk.j2 kj4 x3_1 true l0_0 ((rd_T32 l0_0 x3_1).f0) ((rd_T32 l0_0 x3_1).f1) ((rd_T32 l0_0 x3_1).f2) ((rd_T32 l0_0 x3_1).f3))) = some r := H
                    have A20 := Aside0.mk A200
                    clear A200
                    by_cases c21 : t253 = true
                    · subst c21
                      have H1 : (if ((rd_T32 l0_0 x3_1).f0) = 2 then ((spec_VarName.f kj4 ((rd_T32 l0_0 x3_1).f2)).bind fun t254 => (if t254 = true then (spec_ExprOk.j2 kj4 x3_1 false l0_0 ((rd_T32 l0_0 x3_1).f0) ((rd_T32 l0_0 x3_1).f1) ((rd_T32 l0_0 x3_1).f2) ((rd_T32 l0_0 x3_1).f3)) else (spec_ExprOk.j2 kj4 x3_1 true l0_0 ((rd_T32 l0_0 x3_1).f0) ((rd_T32 l0_0 x3_1).f1) ((rd_T32 l0_0 x3_1).f2) ((rd_T32 l0_0 x3_1).f3)))) else (spec_ExprOk.j2 kj4 x3_1 (((rd_T32 l0_0 x3_1).f2).toList != ([] : List UInt8)) l0_0 ((rd_T32 l0_0 x3_1).f0) ((rd_T32 l0_0 x3_1).f1) ((rd_T32 l0_0 x3_1).f2) ((rd_T32 l0_0 x3_1).f3))) = some r := by rw [if_pos rfl] at H; exact H
                      clear H
                      have H := H1
                      clear H1
                      by_cases c22 : ((rd_T32 l0_0 x3_1).f0) = 2
                      · rw [if_pos c22] at H
                        have c22b0 : (((rd_T32 l0_0 x3_1).f0) == 2) = true := beq_iff_eq.mpr c22
                        have c22b1 : (((rd_T32 l0_0 x3_1).f0) != 2) = false := bne_eq_false_iff_eq.mpr c22
                        clear c22
                        replace H := Option.bind_eq_some_iff.mp H
                        obtain ⟨t254, A230, H⟩ := H
                        replace H : (if t254 = true then (spec_ExprOk.j2 kj4 x3_1 false l0_0 ((rd_T32 l0_0 x3_1).f0) ((rd_T32 l0_0 x3_1).f1) ((rd_T32 l0_0 x3_1).f2) ((rd_T32 l0_0 x3_1).f3)) else (spec_ExprOk.j2 kj4 x3_1 true l0_0 ((rd_T32 l0_0 x3_1).f0) ((rd_T32 l0_0 x3_1).f1) ((rd_T32 l0_0 x3_1).f2) ((rd_T32 l0_0 x3_1).f3))) = some r := H
                        have A23 := Aside0.mk A230
                        clear A230
                        by_cases c24 : t254 = true
                        · subst c24
                          have H1 : (spec_ExprOk.j2 kj4 x3_1 false l0_0 ((rd_T32 l0_0 x3_1).f0) ((rd_T32 l0_0 x3_1).f1) ((rd_T32 l0_0 x3_1).f2) ((rd_T32 l0_0 x3_1).f3)) = some r := by rw [if_pos rfl] at H; exact H
                          clear H
                          have H := H1
                          clear H1
                          have H' := Aside0.mk H
                          clear H
                          have hnb25 := NB250_247.out
                          have hnc25 := NB247_250.out
                          obtain ⟨hcz26_0, hcz26_1, hcz26_2, hcz26_3, hfz26_0, hfz26_1, hfz26_2, hfz26_3⟩ := bc4 BK250.out
                          go_wp2_with (first | (go_at_call 70; (with_reducible refine (spec_l01In.calls ((rd_T32 l0_0 x3_1).f1) 0 99 true _ A20.out).mono ?_); rintro e w' ⟨rfl, ⟨nd, rfl⟩⟩; (try first | exact ⟨rfl, _, World.drewN_drewN _ _ _⟩ | exact ⟨rfl, _, Eq.trans (World.drewN_drewN _ _ _) (congrArg (World.drewN _) (Nat.add_assoc _ _ _))⟩)) | (go_at_call 72; (with_reducible refine (spec_VarName.calls kj4 ((rd_T32 l0_0 x3_1).f2) true _ A23.out).mono ?_); rintro e w' ⟨rfl, ⟨nd, rfl⟩⟩; (try first | exact ⟨rfl, _, World.drewN_drewN _ _ _⟩ | exact ⟨rfl, _, Eq.trans (World.drewN_drewN _ _ _) (congrArg (World.drewN _) (Nat.add_assoc _ _ _))⟩)))
                          repeat (go_quiet (first | (go_at_call 70; (with_reducible refine (spec_l01In.calls ((rd_T32 l0_0 x3_1).f1) 0 99 true _ A20.out).mono ?_); rintro e w' ⟨rfl, ⟨nd, rfl⟩⟩; (try first | exact ⟨rfl, _, World.drewN_drewN _ _ _⟩ | exact ⟨rfl, _, Eq.trans (World.drewN_drewN _ _ _) (congrArg (World.drewN _) (Nat.add_assoc _ _ _))⟩)) | (go_at_call 72; (with_reducible refine (spec_VarName.calls kj4 ((rd_T32 l0_0 x3_1).f2) true _ A23.out).mono ?_); rintro e w' ⟨rfl, ⟨nd, rfl⟩⟩; (try first | exact ⟨rfl, _, World.drewN_drewN _ _ _⟩ | exact ⟨rfl, _, Eq.trans (World.drewN_drewN _ _ _) (congrArg (World.drewN _) (Nat.add_assoc _ _ _))⟩))); try go_wp2_with (first | (go_at_call 70; (with_reducible refine (spec_l01In.calls ((rd_T32 l0_0 x3_1).f1) 0 99 true _ A20.out).mono ?_); rintro e w' ⟨rfl, ⟨nd, rfl⟩⟩; (try first | exact ⟨rfl, _, World.drewN_drewN _ _ _⟩ | exact ⟨rfl, _, Eq.trans (World.drewN_drewN _ _ _) (congrArg (World.drewN _) (Nat.add_assoc _ _ _))⟩)) | (go_at_call 72; (with_reducible refine (spec_VarName.calls kj4 ((rd_T32 l0_0 x3_1).f2) true _ A23.out).mono ?_); rintro e w' ⟨rfl, ⟨nd, rfl⟩⟩; (try first | exact ⟨rfl, _, World.drewN_drewN _ _ _⟩ | exact ⟨rfl, _, Eq.trans (World.drewN_drewN _ _ _) (congrArg (World.drewN _) (Nat.add_assoc _ _ _))⟩))))
                          go_meet
                          case rel => exact ⟨_, (false), (by first | rfl | (simp; done) | (simp [*]; done) | (simp [isE0, isE1]; done)), H', ⟨by have := HK1.out; have := HJ4.out; first | omega | exact Nat.le_refl _⟩, ⟨by (with_reducible repeat (first | refine blk_drewN ?_ _ | refine blk_drew ?_ | refine blk_alloc ?_ _)); exact BK247.out⟩, ⟨by (with_reducible repeat (first | refine blk_drewN ?_ _ | refine blk_drew ?_ | refine blk_alloc ?_ _)); exact BK250.out⟩, ⟨by repeat (first | (with_reducible first | exact HB.out | apply below_alloc | apply pw_below_drewN | apply below_drew1 | refine below_set ?_ GE247.out | refine below_set ?_ GE250.out) | exact HB.out)⟩⟩
                        · replace c24 := Bool.eq_false_iff.mpr c24
                          subst c24
                          have H1 : (spec_ExprOk.j2 kj4 x3_1 true l0_0 ((rd_T32 l0_0 x3_1).f0) ((rd_T32 l0_0 x3_1).f1) ((rd_T32 l0_0 x3_1).f2) ((rd_T32 l0_0 x3_1).f3)) = some r := by rw [if_neg (show ¬ (false = true) by decide)] at H; exact H
                          clear H
                          have H := H1
                          clear H1
                          have H' := Aside0.mk H
                          clear H
                          have hnb27 := NB250_247.out
                          have hnc27 := NB247_250.out
                          obtain ⟨hcz28_0, hcz28_1, hcz28_2, hcz28_3, hfz28_0, hfz28_1, hfz28_2, hfz28_3⟩ := bc4 BK250.out
                          go_wp2_with (first | (go_at_call 70; (with_reducible refine (spec_l01In.calls ((rd_T32 l0_0 x3_1).f1) 0 99 true _ A20.out).mono ?_); rintro e w' ⟨rfl, ⟨nd, rfl⟩⟩; (try first | exact ⟨rfl, _, World.drewN_drewN _ _ _⟩ | exact ⟨rfl, _, Eq.trans (World.drewN_drewN _ _ _) (congrArg (World.drewN _) (Nat.add_assoc _ _ _))⟩)) | (go_at_call 72; (with_reducible refine (spec_VarName.calls kj4 ((rd_T32 l0_0 x3_1).f2) false _ A23.out).mono ?_); rintro e w' ⟨rfl, ⟨nd, rfl⟩⟩; (try first | exact ⟨rfl, _, World.drewN_drewN _ _ _⟩ | exact ⟨rfl, _, Eq.trans (World.drewN_drewN _ _ _) (congrArg (World.drewN _) (Nat.add_assoc _ _ _))⟩)))
                          repeat (go_quiet (first | (go_at_call 70; (with_reducible refine (spec_l01In.calls ((rd_T32 l0_0 x3_1).f1) 0 99 true _ A20.out).mono ?_); rintro e w' ⟨rfl, ⟨nd, rfl⟩⟩; (try first | exact ⟨rfl, _, World.drewN_drewN _ _ _⟩ | exact ⟨rfl, _, Eq.trans (World.drewN_drewN _ _ _) (congrArg (World.drewN _) (Nat.add_assoc _ _ _))⟩)) | (go_at_call 72; (with_reducible refine (spec_VarName.calls kj4 ((rd_T32 l0_0 x3_1).f2) false _ A23.out).mono ?_); rintro e w' ⟨rfl, ⟨nd, rfl⟩⟩; (try first | exact ⟨rfl, _, World.drewN_drewN _ _ _⟩ | exact ⟨rfl, _, Eq.trans (World.drewN_drewN _ _ _) (congrArg (World.drewN _) (Nat.add_assoc _ _ _))⟩))); try go_wp2_with (first | (go_at_call 70; (with_reducible refine (spec_l01In.calls ((rd_T32 l0_0 x3_1).f1) 0 99 true _ A20.out).mono ?_); rintro e w' ⟨rfl, ⟨nd, rfl⟩⟩; (try first | exact ⟨rfl, _, World.drewN_drewN _ _ _⟩ | exact ⟨rfl, _, Eq.trans (World.drewN_drewN _ _ _) (congrArg (World.drewN _) (Nat.add_assoc _ _ _))⟩)) | (go_at_call 72; (with_reducible refine (spec_VarName.calls kj4 ((rd_T32 l0_0 x3_1).f2) false _ A23.out).mono ?_); rintro e w' ⟨rfl, ⟨nd, rfl⟩⟩; (try first | exact ⟨rfl, _, World.drewN_drewN _ _ _⟩ | exact ⟨rfl, _, Eq.trans (World.drewN_drewN _ _ _) (congrArg (World.drewN _) (Nat.add_assoc _ _ _))⟩))))
                          go_meet
                          case rel => exact ⟨_, (true), (by first | rfl | (simp; done) | (simp [*]; done) | (simp [isE0, isE1]; done)), H', ⟨by have := HK1.out; have := HJ4.out; first | omega | exact Nat.le_refl _⟩, ⟨by (with_reducible repeat (first | refine blk_drewN ?_ _ | refine blk_drew ?_ | refine blk_alloc ?_ _)); exact BK247.out⟩, ⟨by (with_reducible repeat (first | refine blk_drewN ?_ _ | refine blk_drew ?_ | refine blk_alloc ?_ _)); exact BK250.out⟩, ⟨by repeat (first | (with_reducible first | exact HB.out | apply below_alloc | apply pw_below_drewN | apply below_drew1 | refine below_set ?_ GE247.out | refine below_set ?_ GE250.out) | exact HB.out)⟩⟩
                      · rw [if_neg c22] at H
                        have c22b0 : (((rd_T32 l0_0 x3_1).f0) == 2) = false := beq_eq_false_iff_ne.mpr c22
                        have c22b1 : (((rd_T32 l0_0 x3_1).f0) != 2) = true := bne_iff_ne.mpr c22
                        have H' := Aside0.mk H
                        clear H
                        have hnb29 := NB250_247.out
                        have hnc29 := NB247_250.out
                        obtain ⟨hcz30_0, hcz30_1, hcz30_2, hcz30_3, hfz30_0, hfz30_1, hfz30_2, hfz30_3⟩ := bc4 BK250.out
                        go_wp2_with (first | (go_at_call 70; (with_reducible refine (spec_l01In.calls ((rd_T32 l0_0 x3_1).f1) 0 99 true _ A20.out).mono ?_); rintro e w' ⟨rfl, ⟨nd, rfl⟩⟩; (try first | exact ⟨rfl, _, World.drewN_drewN _ _ _⟩ | exact ⟨rfl, _, Eq.trans (World.drewN_drewN _ _ _) (congrArg (World.drewN _) (Nat.add_assoc _ _ _))⟩)))
                        repeat (go_quiet (first | (go_at_call 70; (with_reducible refine (spec_l01In.calls ((rd_T32 l0_0 x3_1).f1) 0 99 true _ A20.out).mono ?_); rintro e w' ⟨rfl, ⟨nd, rfl⟩⟩; (try first | exact ⟨rfl, _, World.drewN_drewN _ _ _⟩ | exact ⟨rfl, _, Eq.trans (World.drewN_drewN _ _ _) (congrArg (World.drewN _) (Nat.add_assoc _ _ _))⟩))); try go_wp2_with (first | (go_at_call 70; (with_reducible refine (spec_l01In.calls ((rd_T32 l0_0 x3_1).f1) 0 99 true _ A20.out).mono ?_); rintro e w' ⟨rfl, ⟨nd, rfl⟩⟩; (try first | exact ⟨rfl, _, World.drewN_drewN _ _ _⟩ | exact ⟨rfl, _, Eq.trans (World.drewN_drewN _ _ _) (congrArg (World.drewN _) (Nat.add_assoc _ _ _))⟩))))
                        go_meet
                        case rel => exact ⟨_, ((((rd_T32 l0_0 x3_1).f2).toList != ([] : List UInt8))), (by first | rfl | (simp; done) | (simp [*]; done) | (simp [isE0, isE1]; done)), H', ⟨by have := HK1.out; have := HJ4.out; first | omega | exact Nat.le_refl _⟩, ⟨by (with_reducible repeat (first | refine blk_drewN ?_ _ | refine blk_drew ?_ | refine blk_alloc ?_ _)); exact BK247.out⟩, ⟨by (with_reducible repeat (first | refine blk_drewN ?_ _ | refine blk_drew ?_ | refine blk_alloc ?_ _)); exact BK250.out⟩, ⟨by repeat (first | (with_reducible first | exact HB.out | apply below_alloc | apply pw_below_drewN | apply below_drew1 | refine below_set ?_ GE247.out | refine below_set ?_ GE250.out) | exact HB.out)⟩⟩
                    · replace c21 := Bool.eq_false_iff.mpr c21
                      subst c21
                      have H1 : (spec_ExprOk.j2 kj4 x3_1 true l0_0 ((rd_T32 l0_0 x3_1).f0) ((rd_T32 l0_0 x3_1).f1) ((rd_T32 l0_0 x3_1).f2) ((rd_T32 l0_0 x3_1).f3)) = some r := by rw [if_neg (show ¬ (false = true) by decide)] at H; exact H
                      clear H
                      have H := H1
                      clear H1
                      have H' := Aside0.mk H
                      clear H
                      have hnb31 := NB250_247.out
                      have hnc31 := NB247_250.out
                      obtain ⟨hcz32_0, hcz32_1, hcz32_2, hcz32_3, hfz32_0, hfz32_1, hfz32_2, hfz32_3⟩ := bc4 BK250.out
                      go_wp2_with (first | (go_at_call 70; (with_reducible refine (spec_l01In.calls ((rd_T32 l0_0 x3_1).f1) 0 99 false _ A20.out).mono ?_); rintro e w' ⟨rfl, ⟨nd, rfl⟩⟩; (try first | exact ⟨rfl, _, World.drewN_drewN _ _ _⟩ | exact ⟨rfl, _, Eq.trans (World.drewN_drewN _ _ _) (congrArg (World.drewN _) (Nat.add_assoc _ _ _))⟩)))
                      repeat (go_quiet (first | (go_at_call 70; (with_reducible refine (spec_l01In.calls ((rd_T32 l0_0 x3_1).f1) 0 99 false _ A20.out).mono ?_); rintro e w' ⟨rfl, ⟨nd, rfl⟩⟩; (try first | exact ⟨rfl, _, World.drewN_drewN _ _ _⟩ | exact ⟨rfl, _, Eq.trans (World.drewN_drewN _ _ _) (congrArg (World.drewN _) (Nat.add_assoc _ _ _))⟩))); try go_wp2_with (first | (go_at_call 70; (with_reducible refine (spec_l01In.calls ((rd_T32 l0_0 x3_1).f1) 0 99 false _ A20.out).mono ?_); rintro e w' ⟨rfl, ⟨nd, rfl⟩⟩; (try first | exact ⟨rfl, _, World.drewN_drewN _ _ _⟩ | exact ⟨rfl, _, Eq.trans (World.drewN_drewN _ _ _) (congrArg (World.drewN _) (Nat.add_assoc _ _ _))⟩))))
                      go_meet
                      case rel => exact ⟨_, (true), (by first | rfl | (simp; done) | (simp [*]; done) | (simp [isE0, isE1]; done)), H', ⟨by have := HK1.out; have := HJ4.out; first | omega | exact Nat.le_refl _⟩, ⟨by (with_reducible repeat (first | refine blk_drewN ?_ _ | refine blk_drew ?_ | refine blk_alloc ?_ _)); exact BK247.out⟩, ⟨by (with_reducible repeat (first | refine blk_drewN ?_ _ | refine blk_drew ?_ | refine blk_alloc ?_ _)); exact BK250.out⟩, ⟨by repeat (first | (with_reducible first | exact HB.out | apply below_alloc | apply pw_below_drewN | apply below_drew1 | refine below_set ?_ GE247.out | refine below_set ?_ GE250.out) | exact HB.out)⟩⟩
                  · rw [if_neg c19] at H
                    have c19b0 : (((rd_T32 l0_0 x3_1).f0) == 1) = false := beq_eq_false_iff_ne.mpr c19
                    have c19b1 : (((rd_T32 l0_0 x3_1).f0) != 1) = true := bne_iff_ne.mpr c19
                    (first | rw [c19b0] | (simp only [i64_w, i32_w]; rw [c19b0]) | skip)
                    by_cases c33 : ((rd_T32 l0_0 x3_1).f1) = 0
                    · rw [if_pos c33] at H
                      have c33b0 : (((rd_T32 l0_0 x3_1).f1) == 0) = true := beq_iff_eq.mpr c33
                      have c33b1 : (((rd_T32 l0_0 x3_1).f1) != 0) = false := bne_eq_false_iff_eq.mpr c33
                      clear c33
                      by_cases c34 : ((rd_T32 l0_0 x3_1).f0) = 2
                      · rw [if_pos c34] at H
                        have c34b0 : (((rd_T32 l0_0 x3_1).f0) == 2) = true := beq_iff_eq.mpr c34
                        have c34b1 : (((rd_T32 l0_0 x3_1).f0) != 2) = false := bne_eq_false_iff_eq.mpr c34
                        clear c34
                        replace H := Option.bind_eq_some_iff.mp H
                        obtain ⟨t255, A350, H⟩ := H
                        replace H : (if t255 = true then (spec_ExprOk.j2 kj4 x3_1 false l0_0 ((rd_T32 l0_0 x3_1).f0) ((rd_T32 l0_0 x3_1).f1) ((rd_T32 l0_0 x3_1).f2) ((rd_T32 l0_0 x3_1).f3)) else (spec_ExprOk.j2 kj4 x3_1 true l0_0 ((rd_T32 l0_0 x3_1).f0) ((rd_T32 l0_0 x3_1).f1) ((rd_T32 l0_0 x3_1).f2) ((rd_T32 l0_0 x3_1).f3))) = some r := H
                        have A35 := Aside0.mk A350
                        clear A350
                        by_cases c36 : t255 = true
                        · subst c36
                          have H1 : (spec_ExprOk.j2 kj4 x3_1 false l0_0 ((rd_T32 l0_0 x3_1).f0) ((rd_T32 l0_0 x3_1).f1) ((rd_T32 l0_0 x3_1).f2) ((rd_T32 l0_0 x3_1).f3)) = some r := by rw [if_pos rfl] at H; exact H
                          clear H
                          have H := H1
                          clear H1
                          have H' := Aside0.mk H
                          clear H
                          have hnb37 := NB250_247.out
                          have hnc37 := NB247_250.out
                          obtain ⟨hcz38_0, hcz38_1, hcz38_2, hcz38_3, hfz38_0, hfz38_1, hfz38_2, hfz38_3⟩ := bc4 BK250.out
                          go_wp2_with (first | (go_at_call 72; (with_reducible refine (spec_VarName.calls kj4 ((rd_T32 l0_0 x3_1).f2) true _ A35.out).mono ?_); rintro e w' ⟨rfl, ⟨nd, rfl⟩⟩; (try first | exact ⟨rfl, _, World.drewN_drewN _ _ _⟩ | exact ⟨rfl, _, Eq.trans (World.drewN_drewN _ _ _) (congrArg (World.drewN _) (Nat.add_assoc _ _ _))⟩)))
                          repeat (go_quiet (first | (go_at_call 72; (with_reducible refine (spec_VarName.calls kj4 ((rd_T32 l0_0 x3_1).f2) true _ A35.out).mono ?_); rintro e w' ⟨rfl, ⟨nd, rfl⟩⟩; (try first | exact ⟨rfl, _, World.drewN_drewN _ _ _⟩ | exact ⟨rfl, _, Eq.trans (World.drewN_drewN _ _ _) (congrArg (World.drewN _) (Nat.add_assoc _ _ _))⟩))); try go_wp2_with (first | (go_at_call 72; (with_reducible refine (spec_VarName.calls kj4 ((rd_T32 l0_0 x3_1).f2) true _ A35.out).mono ?_); rintro e w' ⟨rfl, ⟨nd, rfl⟩⟩; (try first | exact ⟨rfl, _, World.drewN_drewN _ _ _⟩ | exact ⟨rfl, _, Eq.trans (World.drewN_drewN _ _ _) (congrArg (World.drewN _) (Nat.add_assoc _ _ _))⟩))))
                          go_meet
                          case rel => exact ⟨_, (false), (by first | rfl | (simp; done) | (simp [*]; done) | (simp [isE0, isE1]; done)), H', ⟨by have := HK1.out; have := HJ4.out; first | omega | exact Nat.le_refl _⟩, ⟨by (with_reducible repeat (first | refine blk_drewN ?_ _ | refine blk_drew ?_ | refine blk_alloc ?_ _)); exact BK247.out⟩, ⟨by (with_reducible repeat (first | refine blk_drewN ?_ _ | refine blk_drew ?_ | refine blk_alloc ?_ _)); exact BK250.out⟩, ⟨by repeat (first | (with_reducible first | exact HB.out | apply below_alloc | apply pw_below_drewN | apply below_drew1 | refine below_set ?_ GE247.out | refine below_set ?_ GE250.out) | exact HB.out)⟩⟩
                        · replace c36 := Bool.eq_false_iff.mpr c36
                          subst c36
                          have H1 : (spec_ExprOk.j2 kj4 x3_1 true l0_0 ((rd_T32 l0_0 x3_1).f0) ((rd_T32 l0_0 x3_1).f1) ((rd_T32 l0_0 x3_1).f2) ((rd_T32 l0_0 x3_1).f3)) = some r := by rw [if_neg (show ¬ (false = true) by decide)] at H; exact H
                          clear H
                          have H := H1
                          clear H1
                          have H' := Aside0.mk H
                          clear H
                          have hnb39 := NB250_247.out
                          have hnc39 := NB247_250.out
                          obtain ⟨hcz40_0, hcz40_1, hcz40_2, hcz40_3, hfz40_0, hfz40_1, hfz40_2, hfz40_3⟩ := bc4 BK250.out
                          go_wp2_with (first | (go_at_call 72; (with_reducible refine (spec_VarName.calls kj4 ((rd_T32 l0_0 x3_1).f2) false _ A35.out).mono ?_); rintro e w' ⟨rfl, ⟨nd, rfl⟩⟩; (try first | exact ⟨rfl, _, World.drewN_drewN _ _ _⟩ | exact ⟨rfl, _, Eq.trans (World.drewN_drewN _ _ _) (congrArg (World.drewN _) (Nat.add_assoc _ _ _))⟩)))
                          repeat (go_quiet (first | (go_at_call 72; (with_reducible refine (spec_VarName.calls kj4 ((rd_T32 l0_0 x3_1).f2) false _ A35.out).mono ?_); rintro e w' ⟨rfl, ⟨nd, rfl⟩⟩; (try first | exact ⟨rfl, _, World.drewN_drewN _ _ _⟩ | exact ⟨rfl, _, Eq.trans (World.drewN_drewN _ _ _) (congrArg (World.drewN _) (Nat.add_assoc _ _ _))⟩))); try go_wp2_with (first | (go_at_call 72; (with_reducible refine (spec_VarName.calls kj4 ((rd_T32 l0_0 x3_1).f2) false _ A35.out).mono ?_); rintro e w' ⟨rfl, ⟨nd, rfl⟩⟩; (try first | exact ⟨rfl, _, World.drewN_drewN _ _ _⟩ | exact ⟨rfl, _, Eq.trans (World.drewN_drewN _ _ _) (congrArg (World.drewN _) (Nat.add_assoc _ _ _))⟩))))
                          go_meet
                          case rel => exact ⟨_, (true), (by first | rfl | (simp; done) | (simp [*]; done) | (simp [isE0, isE1]; done)), H', ⟨by have := HK1.out; have := HJ4.out; first | omega | exact Nat.le_refl _⟩, ⟨by (with_reducible repeat (first | refine blk_drewN ?_ _ | refine blk_drew ?_ | refine blk_alloc ?_ _)); exact BK247.out⟩, ⟨by (with_reducible repeat (first | refine blk_drewN ?_ _ | refine blk_drew ?_ | refine blk_alloc ?_ _)); exact BK250.out⟩, ⟨by repeat (first | (with_reducible first | exact HB.out | apply below_alloc | apply pw_below_drewN | apply below_drew1 | refine below_set ?_ GE247.out | refine below_set ?_ GE250.out) | exact HB.out)⟩⟩
                      · rw [if_neg c34] at H
                        have c34b0 : (((rd_T32 l0_0 x3_1).f0) == 2) = false := beq_eq_false_iff_ne.mpr c34
                        have c34b1 : (((rd_T32 l0_0 x3_1).f0) != 2) = true := bne_iff_ne.mpr c34
                        have H' := Aside0.mk H
                        clear H
                        have hnb41 := NB250_247.out
                        have hnc41 := NB247_250.out
                        obtain ⟨hcz42_0, hcz42_1, hcz42_2, hcz42_3, hfz42_0, hfz42_1, hfz42_2, hfz42_3⟩ := bc4 BK250.out
                        go_wp2
                        repeat (go_quiet (fail); try go_wp2)
                        go_meet
                        case rel => exact ⟨_, ((((rd_T32 l0_0 x3_1).f2).toList != ([] : List UInt8))), (by first | rfl | (simp; done) | (simp [*]; done) | (simp [isE0, isE1]; done)), H', ⟨by have := HK1.out; have := HJ4.out; first | omega | exact Nat.le_refl _⟩, ⟨by (with_reducible repeat (first | refine blk_drewN ?_ _ | refine blk_drew ?_ | refine blk_alloc ?_ _)); exact BK247.out⟩, ⟨by (with_reducible repeat (first | refine blk_drewN ?_ _ | refine blk_drew ?_ | refine blk_alloc ?_ _)); exact BK250.out⟩, ⟨by repeat (first | (with_reducible first | exact HB.out | apply below_alloc | apply pw_below_drewN | apply below_drew1 | refine below_set ?_ GE247.out | refine below_set ?_ GE250.out) | exact HB.out)⟩⟩
                    · rw [if_neg c33] at H
                      have c33b0 : (((rd_T32 l0_0 x3_1).f1) == 0) = false := beq_eq_false_iff_ne.mpr c33
                      have c33b1 : (((rd_T32 l0_0 x3_1).f1) != 0) = true := bne_iff_ne.mpr c33
                      have H' := Aside0.mk H
                      clear H
                      have hnb43 := NB250_247.out
                      have hnc43 := NB247_250.out
                      obtain ⟨hcz44_0, hcz44_1, hcz44_2, hcz44_3, hfz44_0, hfz44_1, hfz44_2, hfz44_3⟩ := bc4 BK250.out
                      go_wp2
                      repeat (go_quiet (fail); try go_wp2)
                      go_meet
                      case rel => exact ⟨_, (true), (by first | rfl | (simp; done) | (simp [*]; done) | (simp [isE0, isE1]; done)), H', ⟨by have := HK1.out; have := HJ4.out; first | omega | exact Nat.le_refl _⟩, ⟨by (with_reducible repeat (first | refine blk_drewN ?_ _ | refine blk_drew ?_ | refine blk_alloc ?_ _)); exact BK247.out⟩, ⟨by (with_reducible repeat (first | refine blk_drewN ?_ _ | refine blk_drew ?_ | refine blk_alloc ?_ _)); exact BK250.out⟩, ⟨by repeat (first | (with_reducible first | exact HB.out | apply below_alloc | apply pw_below_drewN | apply below_drew1 | refine below_set ?_ GE247.out | refine below_set ?_ GE250.out) | exact HB.out)⟩⟩
                case rest =>
                  clear HC18
                  try clear c1
                  try clear c2
                  try clear p2
                  try clear q2
                  try clear hx2
                  try clear c3
                  try clear c3b0
                  try clear c4
                  try clear c4b0
                  try clear c8
                  try clear c11
                  try clear c13
                  try clear c15
                  try clear c17
                  try clear c19
                  try clear c19b0
                  try clear c19b1
                  try clear c20
                  try clear c21
                  try clear c22
                  try clear c22b0
                  try clear c22b1
                  try clear c24
                  try clear p24
                  try clear q24
                  try clear hx24
                  try clear c25
                  try clear c27
                  try clear c29
                  try clear c31
                  try clear c33
                  try clear c33b0
                  try clear c33b1
                  try clear c34
                  try clear c34b0
                  try clear c34b1
                  try clear c36
                  try clear c37
                  try clear c39
                  try clear c41
                  try clear c43
                  try clear hcz14_0
                  try clear hcz14_1
                  try clear hcz14_2
                  try clear hcz14_3
                  try clear hcz16_0
                  try clear hcz16_1
                  try clear hcz16_2
                  try clear hcz16_3
                  try clear hcz26_0
                  try clear hcz26_1
                  try clear hcz26_2
                  try clear hcz26_3
                  try clear hcz28_0
                  try clear hcz28_1
                  try clear hcz28_2
                  try clear hcz28_3
                  try clear hcz30_0
                  try clear hcz30_1
                  try clear hcz30_2
                  try clear hcz30_3
                  try clear hcz32_0
                  try clear hcz32_1
                  try clear hcz32_2
                  try clear hcz32_3
                  try clear hcz38_0
                  try clear hcz38_1
                  try clear hcz38_2
                  try clear hcz38_3
                  try clear hcz40_0
                  try clear hcz40_1
                  try clear hcz40_2
                  try clear hcz40_3
                  try clear hcz42_0
                  try clear hcz42_1
                  try clear hcz42_2
                  try clear hcz42_3
                  try clear hcz44_0
                  try clear hcz44_1
                  try clear hcz44_2
                  try clear hcz44_3
                  try clear hcz6_0
                  try clear hcz9_0
                  try clear hcz9_1
                  try clear hcz9_2
                  try clear hcz9_3
                  try clear hfz14_0
                  try clear hfz14_1
                  try clear hfz14_2
                  try clear hfz14_3
                  try clear hfz16_0
                  try clear hfz16_1
                  try clear hfz16_2
                  try clear hfz16_3
                  try clear hfz26_0
                  try clear hfz26_1
                  try clear hfz26_2
                  try clear hfz26_3
                  try clear hfz28_0
                  try clear hfz28_1
                  try clear hfz28_2
                  try clear hfz28_3
                  try clear hfz30_0
                  try clear hfz30_1
                  try clear hfz30_2
                  try clear hfz30_3
                  try clear hfz32_0
                  try clear hfz32_1
                  try clear hfz32_2
                  try clear hfz32_3
                  try clear hfz38_0
                  try clear hfz38_1
                  try clear hfz38_2
                  try clear hfz38_3
                  try clear hfz40_0
                  try clear hfz40_1
                  try clear hfz40_2
                  try clear hfz40_3
                  try clear hfz42_0
                  try clear hfz42_1
                  try clear hfz42_2
                  try clear hfz42_3
                  try clear hfz44_0
                  try clear hfz44_1
                  try clear hfz44_2
                  try clear hfz44_3
                  try clear hfz6_0
                  try clear hfz9_0
                  try clear hfz9_1
                  try clear hfz9_2
                  try clear hfz9_3
                  try clear hx249_0
                  try clear hx249_1
                  try clear hx249_2
                  try clear hx249_3
                  try clear p2
                  try clear p249
                  try clear q2
                  try clear q249
                  obtain ⟨kq, x70_17, rfl, HA, HJ17, BK247, BK250, HB⟩ := hcut
                  cases kq with
                  | zero => exact absurd HA.out (by simp [spec_ExprOk.j2])
                  | succ kj17 =>
                    have H := HA.out
                    clear HA
                    simp only [spec_ExprOk.j2] at H
                    by_cases c45 : x70_17 = true
                    · subst c45
                      have H1 : (some false) = some r := by rw [if_pos rfl] at H; exact H
                      clear H
                      have H := H1
                      clear H1
                      obtain rfl := Option.some.inj H
                      go_wp2
                      repeat (go_quiet (fail); try go_wp2)
                      go_ret
                      exact ⟨by first | rfl | (simp [errW_none, errW_some] <;> rfl) | (simp [*, errW_none, errW_some] <;> rfl), by repeat (first | (with_reducible first | exact HB.out | apply below_alloc | apply pw_below_drewN | apply below_drew1 | refine below_set ?_ GE247.out | refine below_set ?_ GE250.out) | exact HB.out)⟩
                    · replace c45 := Bool.eq_false_iff.mpr c45
                      subst c45
                      have H1 : (spec_ExprOk.l1 kj17 x3_1 0 l0_0 ((rd_T32 l0_0 x3_1).f0) ((rd_T32 l0_0 x3_1).f1) ((rd_T32 l0_0 x3_1).f2) ((rd_T32 l0_0 x3_1).f3)) = some r := by rw [if_neg (show ¬ (false = true) by decide)] at H; exact H
                      clear H
                      have H := H1
                      clear H1
                      have H' := Aside0.mk H
                      clear H
                      go_wp2
                      repeat (go_quiet (fail); try go_wp2)
                      go_loopg [5] kj17 (fun kq v5 w' => ∃ (x5_4 : Int), v5 = .int .i64 x5_4 ∧ Aside0 (spec_ExprOk.l1 kq x3_1 x5_4 l0_0 ((rd_T32 l0_0 x3_1).f0) ((rd_T32 l0_0 x3_1).f1) ((rd_T32 l0_0 x3_1).f2) ((rd_T32 l0_0 x3_1).f3) = some r) ∧ Aside0 (kq ≤ kj17) ∧ Aside0 (w'.heap[gb247]? = some (.cells #[(.slice (some ad249) l0_0.length c0_0)] 26 (0, 0))) ∧ Aside0 (w'.heap[gb250]? = some (.cells #[.int .i64 ((rd_T32 l0_0 x3_1).f0), .int .i64 ((rd_T32 l0_0 x3_1).f1), .string ((rd_T32 l0_0 x3_1).f2), (.slice A249_3 ((rd_T32 l0_0 x3_1).f3).length c249_3)] 32 (0, 0))) ∧ Aside0 (Below w.heap.size w w'))
                      case atStart => exact ⟨(0), (by first | rfl | (simp; done) | (simp [*]; done) | (simp [isE0, isE1]; done)), H', ⟨Nat.le_refl _⟩, ⟨by (with_reducible repeat (first | refine blk_drewN ?_ _ | refine blk_drew ?_ | refine blk_alloc ?_ _)); exact BK247.out⟩, ⟨by (with_reducible repeat (first | refine blk_drewN ?_ _ | refine blk_drew ?_ | refine blk_alloc ?_ _)); exact BK250.out⟩, ⟨by repeat (first | (with_reducible first | exact HB.out | apply below_alloc | apply pw_below_drewN | apply below_drew1 | refine below_set ?_ GE247.out | refine below_set ?_ GE250.out) | exact HB.out)⟩⟩
                      case round =>
                        clear H'
                        try clear c1
                        try clear c2
                        try clear p2
                        try clear q2
                        try clear hx2
                        try clear c3
                        try clear c3b0
                        try clear c4
                        try clear c4b0
                        try clear c8
                        try clear c11
                        try clear c13
                        try clear c15
                        try clear c17
                        try clear c19
                        try clear c19b0
                        try clear c19b1
                        try clear c20
                        try clear c21
                        try clear c22
                        try clear c22b0
                        try clear c22b1
                        try clear c24
                        try clear p24
                        try clear q24
                        try clear hx24
                        try clear c25
                        try clear c27
                        try clear c29
                        try clear c31
                        try clear c33
                        try clear c33b0
                        try clear c33b1
                        try clear c34
                        try clear c34b0
                        try clear c34b1
                        try clear c36
                        try clear c37
                        try clear c39
                        try clear c41
                        try clear c43
                        try clear c45
                        try clear hcz14_0
                        try clear hcz14_1
                        try clear hcz14_2
                        try clear hcz14_3
                        try clear hcz16_0
                        try clear hcz16_1
                        try clear hcz16_2
                        try clear hcz16_3
                        try clear hcz26_0
                        try clear hcz26_1
                        try clear hcz26_2
                        try clear hcz26_3
                        try clear hcz28_0
                        try clear hcz28_1
                        try clear hcz28_2
                        try clear hcz28_3
                        try clear hcz30_0
                        try clear hcz30_1
                        try clear hcz30_2
                        try clear hcz30_3
                        try clear hcz32_0
                        try clear hcz32_1
                        try clear hcz32_2
                        try clear hcz32_3
                        try clear hcz38_0
                        try clear hcz38_1
                        try clear hcz38_2
                        try clear hcz38_3
                        try clear hcz40_0
                        try clear hcz40_1
                        try clear hcz40_2
                        try clear hcz40_3
                        try clear hcz42_0
                        try clear hcz42_1
                        try clear hcz42_2
                        try clear hcz42_3
                        try clear hcz44_0
                        try clear hcz44_1
                        try clear hcz44_2
                        try clear hcz44_3
                        try clear hcz6_0
                        try clear hcz9_0
                        try clear hcz9_1
                        try clear hcz9_2
                        try clear hcz9_3
                        try clear hfz14_0
                        try clear hfz14_1
                        try clear hfz14_2
                        try clear hfz14_3
                        try clear hfz16_0
                        try clear hfz16_1
                        try clear hfz16_2
                        try clear hfz16_3
                        try clear hfz26_0
                        try clear hfz26_1
                        try clear hfz26_2
                        try clear hfz26_3
                        try clear hfz28_0
                        try clear hfz28_1
                        try clear hfz28_2
                        try clear hfz28_3
                        try clear hfz30_0
                        try clear hfz30_1
                        try clear hfz30_2
                        try clear hfz30_3
                        try clear hfz32_0
                        try clear hfz32_1
                        try clear hfz32_2
                        try clear hfz32_3
                        try clear hfz38_0
                        try clear hfz38_1
                        try clear hfz38_2
                        try clear hfz38_3
                        try clear hfz40_0
                        try clear hfz40_1
                        try clear hfz40_2
                        try clear hfz40_3
                        try clear hfz42_0
                        try clear hfz42_1
                        try clear hfz42_2
                        try clear hfz42_3
                        try clear hfz44_0
                        try clear hfz44_1
                        try clear hfz44_2
                        try clear hfz44_3
                        try clear hfz6_0
                        try clear hfz9_0
                        try clear hfz9_1
                        try clear hfz9_2
                        try clear hfz9_3
                        try clear hx249_0
                        try clear hx249_1
                        try clear hx249_2
                        try clear hx249_3
                        try clear p2
                        try clear p24
                        try clear p249
                        try clear q2
                        try clear q24
                        try clear q249
                        obtain ⟨x5_4, rfl, HA, HK4, BK247, BK250, HB⟩ := hrel
                        cases gk with
                        | zero => exact absurd HA.out (by simp [spec_ExprOk.l1])
                        | succ k4 =>
                          have H := HA.out
                          clear HA
                          simp only [spec_ExprOk.l1] at H
                          by_cases c46 : x5_4 < (((rd_T32 l0_0 x3_1).f3).length : Int)
                          · rw [if_pos c46] at H
                            have c46b0 : decide (x5_4 < (((rd_T32 l0_0 x3_1).f3).length : Int)) = true := decide_eq_true c46
                            clear c46
                            by_cases c47 : 0 ≤ x5_4
                            · rw [if_pos c47] at H
                              have c47b0 : decide (0 ≤ x5_4) = true := decide_eq_true c47
                              clear c47
                              replace H := Option.bind_eq_some_iff.mp H
                              obtain ⟨t257, A480, H⟩ := H
                              replace H : (if t257 = true then (spec_ExprOk.l1 k4 x3_1 (wrap64 (x5_4 + 1)) l0_0 ((rd_T32 l0_0 x3_1).f0) ((rd_T32 l0_0 x3_1).f1) ((rd_T32 l0_0 x3_1).f2) ((rd_T32 l0_0 x3_1).f3)) else (some false)) = some r := H
                              have A48 := Aside0.mk A480
                              clear A480
                              by_cases c49 : t257 = true
                              · subst c49
                                have H1 : (spec_ExprOk.l1 k4 x3_1 (wrap64 (x5_4 + 1)) l0_0 ((rd_T32 l0_0 x3_1).f0) ((rd_T32 l0_0 x3_1).f1) ((rd_T32 l0_0 x3_1).f2) ((rd_T32 l0_0 x3_1).f3)) = some r := by rw [if_pos rfl] at H; exact H
                                clear H
                                have H := H1
                                clear H1
                                have H' := Aside0.mk H
                                clear H
                                have hnb50 := NB250_247.out
                                have hnc50 := NB247_250.out
                                obtain ⟨hcz51_0, hcz51_1, hcz51_2, hcz51_3, hfz51_0, hfz51_1, hfz51_2, hfz51_3⟩ := bc4 BK250.out
                                have p256 : 0 ≤ (x5_4 : Int) := oa
                                have q256 : x5_4 < (((rd_T32 l0_0 x3_1).f3).length : Int) := oa
                                obtain ⟨ad256, e256, hx256_0⟩ := Kd.at_int HR249_3.out x5_4 p256 q256
                                cases e256
                                replace hx256_0 := hbc HB.out hx256_0
                                replace p256 := eq_true p256
                                replace q256 := eq_true q256
                                go_wp2_with (first | (go_at_call 70; (with_reducible refine (spec_l01In.calls (rd ((rd_T32 l0_0 x3_1).f3) x5_4) 0 (wrap64 (x3_1 - 1)) true _ A48.out).mono ?_); rintro e w' ⟨rfl, ⟨nd, rfl⟩⟩; (try first | exact ⟨rfl, _, World.drewN_drewN _ _ _⟩ | exact ⟨rfl, _, Eq.trans (World.drewN_drewN _ _ _) (congrArg (World.drewN _) (Nat.add_assoc _ _ _))⟩)))
                                repeat (go_quiet (first | (go_at_call 70; (with_reducible refine (spec_l01In.calls (rd ((rd_T32 l0_0 x3_1).f3) x5_4) 0 (wrap64 (x3_1 - 1)) true _ A48.out).mono ?_); rintro e w' ⟨rfl, ⟨nd, rfl⟩⟩; (try first | exact ⟨rfl, _, World.drewN_drewN _ _ _⟩ | exact ⟨rfl, _, Eq.trans (World.drewN_drewN _ _ _) (congrArg (World.drewN _) (Nat.add_assoc _ _ _))⟩))); try go_wp2_with (first | (go_at_call 70; (with_reducible refine (spec_l01In.calls (rd ((rd_T32 l0_0 x3_1).f3) x5_4) 0 (wrap64 (x3_1 - 1)) true _ A48.out).mono ?_); rintro e w' ⟨rfl, ⟨nd, rfl⟩⟩; (try first | exact ⟨rfl, _, World.drewN_drewN _ _ _⟩ | exact ⟨rfl, _, Eq.trans (World.drewN_drewN _ _ _) (congrArg (World.drewN _) (Nat.add_assoc _ _ _))⟩))))
                                go_roundg k4
                                case measure => have := HK1.out; have := HJ4.out; have := HJ17.out; have := HK4.out; omega
                                case rel => exact ⟨(wrap64 (x5_4 + 1)), (by first | rfl | (simp; done) | (simp [*]; done) | (simp [isE0, isE1]; done)), H', ⟨by have := HK1.out; have := HJ4.out; have := HJ17.out; have := HK4.out; omega⟩, ⟨by (with_reducible repeat (first | refine blk_drewN ?_ _ | refine blk_drew ?_ | refine blk_alloc ?_ _)); exact BK247.out⟩, ⟨by (with_reducible repeat (first | refine blk_drewN ?_ _ | refine blk_drew ?_ | refine blk_alloc ?_ _)); exact BK250.out⟩, ⟨by repeat (first | (with_reducible first | exact HB.out | apply below_alloc | apply pw_below_drewN | apply below_drew1 | refine below_set ?_ GE247.out | refine below_set ?_ GE250.out) | exact HB.out)⟩⟩
                              · replace c49 := Bool.eq_false_iff.mpr c49
                                subst c49
                                have H1 : (some false) = some r := by rw [if_neg (show ¬ (false = true) by decide)] at H; exact H
                                clear H
                                have H := H1
                                clear H1
                                obtain rfl := Option.some.inj H
                                have hnb52 := NB250_247.out
                                have hnc52 := NB247_250.out
                                obtain ⟨hcz53_0, hcz53_1, hcz53_2, hcz53_3, hfz53_0, hfz53_1, hfz53_2, hfz53_3⟩ := bc4 BK250.out
                                have p256 : 0 ≤ (x5_4 : Int) := oa
                                have q256 : x5_4 < (((rd_T32 l0_0 x3_1).f3).length : Int) := oa
                                obtain ⟨ad256, e256, hx256_0⟩ := Kd.at_int HR249_3.out x5_4 p256 q256
                                cases e256
                                replace hx256_0 := hbc HB.out hx256_0
                                replace p256 := eq_true p256
                                replace q256 := eq_true q256
                                go_wp2_with (first | (go_at_call 70; (with_reducible refine (spec_l01In.calls (rd ((rd_T32 l0_0 x3_1).f3) x5_4) 0 (wrap64 (x3_1 - 1)) false _ A48.out).mono ?_); rintro e w' ⟨rfl, ⟨nd, rfl⟩⟩; (try first | exact ⟨rfl, _, World.drewN_drewN _ _ _⟩ | exact ⟨rfl, _, Eq.trans (World.drewN_drewN _ _ _) (congrArg (World.drewN _) (Nat.add_assoc _ _ _))⟩)))
                                repeat (go_quiet (first | (go_at_call 70; (with_reducible refine (spec_l01In.calls (rd ((rd_T32 l0_0 x3_1).f3) x5_4) 0 (wrap64 (x3_1 - 1)) false _ A48.out).mono ?_); rintro e w' ⟨rfl, ⟨nd, rfl⟩⟩; (try first | exact ⟨rfl, _, World.drewN_drewN _ _ _⟩ | exact ⟨rfl, _, Eq.trans (World.drewN_drewN _ _ _) (congrArg (World.drewN _) (Nat.add_assoc _ _ _))⟩))); try go_wp2_with (first | (go_at_call 70; (with_reducible refine (spec_l01In.calls (rd ((rd_T32 l0_0 x3_1).f3) x5_4) 0 (wrap64 (x3_1 - 1)) false _ A48.out).mono ?_); rintro e w' ⟨rfl, ⟨nd, rfl⟩⟩; (try first | exact ⟨rfl, _, World.drewN_drewN _ _ _⟩ | exact ⟨rfl, _, Eq.trans (World.drewN_drewN _ _ _) (congrArg (World.drewN _) (Nat.add_assoc _ _ _))⟩))))
                                go_ret
                                exact ⟨by first | rfl | (simp [errW_none, errW_some] <;> rfl) | (simp [*, errW_none, errW_some] <;> rfl), by repeat (first | (with_reducible first | exact HB.out | apply below_alloc | apply pw_below_drewN | apply below_drew1 | refine below_set ?_ GE247.out | refine below_set ?_ GE250.out) | exact HB.out)⟩
                            · rw [if_neg c47] at H
                              exact absurd H (by simp)
                          · rw [if_neg c46] at H
                            have c46b0 : decide (x5_4 < (((rd_T32 l0_0 x3_1).f3).length : Int)) = false := decide_eq_false c46
                            clear c46
                            have H' := Aside0.mk H
                            clear H
                            have hnb54 := NB250_247.out
                            have hnc54 := NB247_250.out
                            obtain ⟨hcz55_0, hcz55_1, hcz55_2, hcz55_3, hfz55_0, hfz55_1, hfz55_2, hfz55_3⟩ := bc4 BK250.out
                            go_wp2
                            repeat (go_quiet (fail); try go_wp2)
                            go_roundg k4
                            case measure => have := HK1.out; have := HJ4.out; have := HJ17.out; have := HK4.out; omega
                            case rel => exact ⟨(wrap64 (x3_1 + 1)), (by first | rfl | (simp; done) | (simp [*]; done) | (simp [isE0, isE1]; done)), H', ⟨by have := HK1.out; have := HJ4.out; have := HJ17.out; have := HK4.out; omega⟩, ⟨by (with_reducible repeat (first | refine blk_drewN ?_ _ | refine blk_drew ?_ | refine blk_alloc ?_ _)); exact BK247.out⟩, ⟨by repeat (first | (with_reducible first | exact HB.out | apply below_alloc | apply pw_below_drewN | apply below_drew1 | refine below_set ?_ GE247.out | refine below_set ?_ GE250.out) | exact HB.out)⟩⟩
        · rw [if_neg c4] at H
          exact absurd H (by simp)
      · rw [if_neg c3] at H
        have c3b0 : decide (x3_1 < (l0_0.length : Int)) = false := decide_eq_false c3
        clear c3
        replace H := Option.bind_eq_some_iff.mp H
        obtain ⟨t248, A560, H⟩ := H
        replace H : (some t248) = some r := H
        have A56 := Aside0.mk A560
        clear A560
        obtain rfl := Option.some.inj H
        obtain ⟨hcz57_0, hfz57_0⟩ := bc1 BK247.out
        go_wp2_with (first | (go_at_call 70; (with_reducible refine (spec_l01In.calls (l0_0.length : Int) 1 20 t248 _ A56.out).mono ?_); rintro e w' ⟨rfl, ⟨nd, rfl⟩⟩; (try first | exact ⟨rfl, _, World.drewN_drewN _ _ _⟩ | exact ⟨rfl, _, Eq.trans (World.drewN_drewN _ _ _) (congrArg (World.drewN _) (Nat.add_assoc _ _ _))⟩)))
        repeat (go_quiet (first | (go_at_call 70; (with_reducible refine (spec_l01In.calls (l0_0.length : Int) 1 20 t248 _ A56.out).mono ?_); rintro e w' ⟨rfl, ⟨nd, rfl⟩⟩; (try first | exact ⟨rfl, _, World.drewN_drewN _ _ _⟩ | exact ⟨rfl, _, Eq.trans (World.drewN_drewN _ _ _) (congrArg (World.drewN _) (Nat.add_assoc _ _ _))⟩))); try go_wp2_with (first | (go_at_call 70; (with_reducible refine (spec_l01In.calls (l0_0.length : Int) 1 20 t248 _ A56.out).mono ?_); rintro e w' ⟨rfl, ⟨nd, rfl⟩⟩; (try first | exact ⟨rfl, _, World.drewN_drewN _ _ _⟩ | exact ⟨rfl, _, Eq.trans (World.drewN_drewN _ _ _) (congrArg (World.drewN _) (Nat.add_assoc _ _ _))⟩))))
        go_ret
        exact ⟨by first | rfl | (simp [errW_none, errW_some] <;> rfl) | (simp [*, errW_none, errW_some] <;> rfl), by repeat (first | (with_reducible first | exact HB.out | apply below_alloc | apply pw_below_drewN | apply below_drew1 | refine below_set ?_ GE247.out) | exact HB.out)⟩

end Go.Proofs.Ytlkbdoejeomlmaa.PFnExprTexts
