/- Written by a program of this session out of Lean's print of the translation: what the calls of these Go functions come to, in plain Lean. No condition. -/
import Derived.Test.YtlkbdoejeomlmaaPFnExactSameGrammarx0
import Derived.Test.YtlkbdoejeomlmaaPFnExactSameGrammarx3
namespace Go.Proofs.Ytlkbdoejeomlmaa.PFnExactSameGrammar
open Go.RowKit Go.Proofs.YtlkbdoejeomlmaaW.PrintWords Go.Proofs.YtlkbdoejeomlmaaW.PrintLast Go.Proofs.YtlkbdoejeomlmaaW.PrintMore
attribute [local go_sem] max2_int min2_int max_two min_two max_three min_three max_four min_four   -- for this text's walks alone
set_option linter.unusedVariables false
set_option linter.unusedSimpArgs false

/-! ### spec_SameGrammar: function 46 -/
mutual
def spec_SameGrammar.l0 : Nat → Int → List (S162) → List (S162) → Option (Bool)
 | 0, _, _, _ => none
 | k + 1, x5, x140000, x141000 => if x5 < (x140000.length : Int) then (if 0 ≤ x5 then (if x5 < (x141000.length : Int) then (if ((rd_T162 x140000 x5).f0).toList = ((rd_T162 x141000 x5).f0).toList then ((spec_l11SameTexts.f k ((rd_T162 x140000 x5).f1) ((rd_T162 x141000 x5).f1)).bind fun t145 => (if t145 = true then (spec_SameGrammar.j1 k x5 ((((rd_T162 x140000 x5).f2).length : Int) != (((rd_T162 x141000 x5).f2).length : Int)) x140000 x141000 ((rd_T162 x140000 x5).f0) ((rd_T162 x140000 x5).f1) ((rd_T162 x140000 x5).f2) ((rd_T162 x141000 x5).f0) ((rd_T162 x141000 x5).f1) ((rd_T162 x141000 x5).f2)) else (spec_SameGrammar.j1 k x5 true x140000 x141000 ((rd_T162 x140000 x5).f0) ((rd_T162 x140000 x5).f1) ((rd_T162 x140000 x5).f2) ((rd_T162 x141000 x5).f0) ((rd_T162 x141000 x5).f1) ((rd_T162 x141000 x5).f2)))) else (spec_SameGrammar.j1 k x5 true x140000 x141000 ((rd_T162 x140000 x5).f0) ((rd_T162 x140000 x5).f1) ((rd_T162 x140000 x5).f2) ((rd_T162 x141000 x5).f0) ((rd_T162 x141000 x5).f1) ((rd_T162 x141000 x5).f2))) else (none)) else (none)) else (some true)
def spec_SameGrammar.j1 : Nat → Int → Bool → List (S162) → List (S162) → ByteArray → List ByteArray → List (S165) → ByteArray → List ByteArray → List (S165) → Option (Bool)
 | 0, _, _, _, _, _, _, _, _, _, _ => none
 | k + 1, x5, x57, x140000, x141000, x143000, x143001, x143002, x145000, x145001, x145002 => if x57 = true then (some false) else (spec_SameGrammar.l1 k x5 0 x140000 x141000 x143000 x143001 x143002 x145000 x145001 x145002)
def spec_SameGrammar.l1 : Nat → Int → Int → List (S162) → List (S162) → ByteArray → List ByteArray → List (S165) → ByteArray → List ByteArray → List (S165) → Option (Bool)
 | 0, _, _, _, _, _, _, _, _, _, _ => none
 | k + 1, x5, x8, x140000, x141000, x143000, x143001, x143002, x145000, x145001, x145002 => if x8 < (x143002.length : Int) then (if 0 ≤ x8 then (if x8 < (x145002.length : Int) then (if (((rd_T165 x143002 x8).f0).length : Int) = (((rd_T165 x145002 x8).f0).length : Int) then (spec_SameGrammar.l2 k x5 x8 0 x140000 x141000 x143000 x143001 x143002 x145000 x145001 x145002) else (some false)) else (none)) else (none)) else (spec_SameGrammar.l0 k (wrap64 (x5 + 1)) x140000 x141000)
def spec_SameGrammar.l2 : Nat → Int → Int → Int → List (S162) → List (S162) → ByteArray → List ByteArray → List (S165) → ByteArray → List ByteArray → List (S165) → Option (Bool)
 | 0, _, _, _, _, _, _, _, _, _, _, _ => none
 | k + 1, x5, x8, x9, x140000, x141000, x143000, x143001, x143002, x145000, x145001, x145002 => if 0 ≤ x8 then (if x8 < (x143002.length : Int) then (if x9 < (((rd_T165 x143002 x8).f0).length : Int) then (if 0 ≤ x9 then (if x8 < (x145002.length : Int) then (if x9 < (((rd_T165 x145002 x8).f0).length : Int) then (if ((rd_T167 ((rd_T165 x143002 x8).f0) x9).f0) = ((rd_T167 ((rd_T165 x145002 x8).f0) x9).f0) then (if ((rd_T167 ((rd_T165 x143002 x8).f0) x9).f1).toList = ((rd_T167 ((rd_T165 x145002 x8).f0) x9).f1).toList then (if ((rd_T167 ((rd_T165 x143002 x8).f0) x9).f3).toList = ((rd_T167 ((rd_T165 x145002 x8).f0) x9).f3).toList then ((spec_l11SameExprs.f k ((rd_T167 ((rd_T165 x143002 x8).f0) x9).f2) ((rd_T167 ((rd_T165 x145002 x8).f0) x9).f2)).bind fun t155 => (if t155 = true then (spec_SameGrammar.l2 k x5 x8 (wrap64 (x9 + 1)) x140000 x141000 x143000 x143001 x143002 x145000 x145001 x145002) else (some false))) else (some false)) else (some false)) else (some false)) else (none)) else (none)) else (none)) else (spec_SameGrammar.l1 k x5 (wrap64 (x8 + 1)) x140000 x141000 x143000 x143001 x143002 x145000 x145001 x145002)) else (none)) else (none)
end
def spec_SameGrammar.f (k : Nat) (l0_0 : List (S162)) (l1_0 : List (S162)) : Option (Bool) := if (l0_0.length : Int) = (l1_0.length : Int) then (spec_SameGrammar.l0 k 0 l0_0 l1_0) else (some false)
theorem spec_SameGrammar.mono_l : ∀ k, (∀ y0 y1 y2, LeO (spec_SameGrammar.l0 k y0 y1 y2) (spec_SameGrammar.l0 (k + 1) y0 y1 y2)) ∧ (∀ y0 y1 y2 y3 y4 y5 y6 y7 y8 y9, LeO (spec_SameGrammar.j1 k y0 y1 y2 y3 y4 y5 y6 y7 y8 y9) (spec_SameGrammar.j1 (k + 1) y0 y1 y2 y3 y4 y5 y6 y7 y8 y9)) ∧ (∀ y0 y1 y2 y3 y4 y5 y6 y7 y8 y9, LeO (spec_SameGrammar.l1 k y0 y1 y2 y3 y4 y5 y6 y7 y8 y9) (spec_SameGrammar.l1 (k + 1) y0 y1 y2 y3 y4 y5 y6 y7 y8 y9)) ∧ (∀ y0 y1 y2 y3 y4 y5 y6 y7 y8 y9 y10, LeO (spec_SameGrammar.l2 k y0 y1 y2 y3 y4 y5 y6 y7 y8 y9 y10) (spec_SameGrammar.l2 (k + 1) y0 y1 y2 y3 y4 y5 y6 y7 y8 y9 y10))
 | 0 => ⟨fun _ _ _ r h => by simp [spec_SameGrammar.l0] at h, fun _ _ _ _ _ _ _ _ _ _ r h => by simp [spec_SameGrammar.j1] at h, fun _ _ _ _ _ _ _ _ _ _ r h => by simp [spec_SameGrammar.l1] at h, fun _ _ _ _ _ _ _ _ _ _ _ r h => by simp [spec_SameGrammar.l2] at h⟩
 | k + 1 => by
  obtain ⟨ih0, ih1, ih2, ih3⟩ := spec_SameGrammar.mono_l k
  refine ⟨?_, ?_, ?_, ?_⟩
  ·intro y0 y1 y2
   unfold spec_SameGrammar.l0
   repeat' first
   | (with_reducible exact ih0 _ _ _)
   | (with_reducible exact ih1 _ _ _ _ _ _ _ _ _ _)
   | (with_reducible exact ih2 _ _ _ _ _ _ _ _ _ _)
   | (with_reducible exact ih3 _ _ _ _ _ _ _ _ _ _ _)
   | (with_reducible exact spec_l11SameExprs.mono _ _ _)
   | (with_reducible exact spec_l11SameTexts.mono _ _ _)
   | (with_reducible exact LeO.refl _)
   | (with_reducible exact LeO.none _)
   | (with_reducible refine LeO.ite ?_ ?_)
   | (with_reducible refine LeO.bind ?_ (fun _ => ?_))
   | exact ih0 _ _ _
   | exact ih1 _ _ _ _ _ _ _ _ _ _
   | exact ih2 _ _ _ _ _ _ _ _ _ _
   | exact ih3 _ _ _ _ _ _ _ _ _ _ _
   | exact spec_l11SameExprs.mono _ _ _
   | exact spec_l11SameTexts.mono _ _ _
   | exact LeO.none _
   | refine LeO.ite ?_ ?_
   | refine LeO.bind ?_ (fun _ => ?_)
  ·intro y0 y1 y2 y3 y4 y5 y6 y7 y8 y9
   unfold spec_SameGrammar.j1
   repeat' first
   | (with_reducible exact ih0 _ _ _)
   | (with_reducible exact ih1 _ _ _ _ _ _ _ _ _ _)
   | (with_reducible exact ih2 _ _ _ _ _ _ _ _ _ _)
   | (with_reducible exact ih3 _ _ _ _ _ _ _ _ _ _ _)
   | (with_reducible exact spec_l11SameExprs.mono _ _ _)
   | (with_reducible exact spec_l11SameTexts.mono _ _ _)
   | (with_reducible exact LeO.refl _)
   | (with_reducible exact LeO.none _)
   | (with_reducible refine LeO.ite ?_ ?_)
   | (with_reducible refine LeO.bind ?_ (fun _ => ?_))
   | exact ih0 _ _ _
   | exact ih1 _ _ _ _ _ _ _ _ _ _
   | exact ih2 _ _ _ _ _ _ _ _ _ _
   | exact ih3 _ _ _ _ _ _ _ _ _ _ _
   | exact spec_l11SameExprs.mono _ _ _
   | exact spec_l11SameTexts.mono _ _ _
   | exact LeO.none _
   | refine LeO.ite ?_ ?_
   | refine LeO.bind ?_ (fun _ => ?_)
  ·intro y0 y1 y2 y3 y4 y5 y6 y7 y8 y9
   unfold spec_SameGrammar.l1
   repeat' first
   | (with_reducible exact ih0 _ _ _)
   | (with_reducible exact ih1 _ _ _ _ _ _ _ _ _ _)
   | (with_reducible exact ih2 _ _ _ _ _ _ _ _ _ _)
   | (with_reducible exact ih3 _ _ _ _ _ _ _ _ _ _ _)
   | (with_reducible exact spec_l11SameExprs.mono _ _ _)
   | (with_reducible exact spec_l11SameTexts.mono _ _ _)
   | (with_reducible exact LeO.refl _)
   | (with_reducible exact LeO.none _)
   | (with_reducible refine LeO.ite ?_ ?_)
   | (with_reducible refine LeO.bind ?_ (fun _ => ?_))
   | exact ih0 _ _ _
   | exact ih1 _ _ _ _ _ _ _ _ _ _
   | exact ih2 _ _ _ _ _ _ _ _ _ _
   | exact ih3 _ _ _ _ _ _ _ _ _ _ _
   | exact spec_l11SameExprs.mono _ _ _
   | exact spec_l11SameTexts.mono _ _ _
   | exact LeO.none _
   | refine LeO.ite ?_ ?_
   | refine LeO.bind ?_ (fun _ => ?_)
  ·intro y0 y1 y2 y3 y4 y5 y6 y7 y8 y9 y10
   unfold spec_SameGrammar.l2
   repeat' first
   | (with_reducible exact ih0 _ _ _)
   | (with_reducible exact ih1 _ _ _ _ _ _ _ _ _ _)
   | (with_reducible exact ih2 _ _ _ _ _ _ _ _ _ _)
   | (with_reducible exact ih3 _ _ _ _ _ _ _ _ _ _ _)
   | (with_reducible exact spec_l11SameExprs.mono _ _ _)
   | (with_reducible exact spec_l11SameTexts.mono _ _ _)
   | (with_reducible exact LeO.refl _)
   | (with_reducible exact LeO.none _)
   | (with_reducible refine LeO.ite ?_ ?_)
   | (with_reducible refine LeO.bind ?_ (fun _ => ?_))
   | exact ih0 _ _ _
   | exact ih1 _ _ _ _ _ _ _ _ _ _
   | exact ih2 _ _ _ _ _ _ _ _ _ _
   | exact ih3 _ _ _ _ _ _ _ _ _ _ _
   | exact spec_l11SameExprs.mono _ _ _
   | exact spec_l11SameTexts.mono _ _ _
   | exact LeO.none _
   | refine LeO.ite ?_ ?_
   | refine LeO.bind ?_ (fun _ => ?_)
theorem spec_SameGrammar.mono : ∀ a0 a1 k, LeO (spec_SameGrammar.f k a0 a1) (spec_SameGrammar.f (k + 1) a0 a1) := by
 intro a0 a1 k
 obtain ⟨ih0, ih1, ih2, ih3⟩ := spec_SameGrammar.mono_l k
 unfold spec_SameGrammar.f
 repeat' first
   | (with_reducible exact ih0 _ _ _)
   | (with_reducible exact ih1 _ _ _ _ _ _ _ _ _ _)
   | (with_reducible exact ih2 _ _ _ _ _ _ _ _ _ _)
   | (with_reducible exact ih3 _ _ _ _ _ _ _ _ _ _ _)
   | (with_reducible exact spec_l11SameExprs.mono _ _ _)
   | (with_reducible exact spec_l11SameTexts.mono _ _ _)
   | (with_reducible exact LeO.refl _)
   | (with_reducible exact LeO.none _)
   | (with_reducible refine LeO.ite ?_ ?_)
   | (with_reducible refine LeO.bind ?_ (fun _ => ?_))
   | exact ih0 _ _ _
   | exact ih1 _ _ _ _ _ _ _ _ _ _
   | exact ih2 _ _ _ _ _ _ _ _ _ _
   | exact ih3 _ _ _ _ _ _ _ _ _ _ _
   | exact spec_l11SameExprs.mono _ _ _
   | exact spec_l11SameTexts.mono _ _ _
   | exact LeO.none _
   | refine LeO.ite ?_ ?_
   | refine LeO.bind ?_ (fun _ => ?_)
set_option maxHeartbeats 8000000 in
set_option maxRecDepth 100000 in
theorem spec_SameGrammar.calls (k : Nat) (A0_0 : Option Addr) (c0_0 : Nat) (l0_0 : List (S162)) (A1_0 : Option Addr) (c1_0 : Nat) (l1_0 : List (S162)) (r : Bool) (w : World) (hr0_0 : Kd.C k162 w A0_0 l0_0.length l0_0) (hc0_0 : l0_0.length ≤ c0_0) (hr1_0 : Kd.C k162 w A1_0 l1_0.length l1_0) (hc1_0 : l1_0.length ≤ c1_0) (h : spec_SameGrammar.f k l0_0 l1_0 = some r) :
  Calls Try.prog 46 #[.agg #[.slice A0_0 l0_0.length c0_0], .agg #[.slice A1_0 l1_0.length c1_0]] w fun e w' => e = .returned (.bool r) ∧ Below w.heap.size w w' := by
 have hu83 := Try.underlying83
 have hu162 := Try.underlying162
 have hu167 := Try.underlying167
 have HR0_0 := Aside0.mk hr0_0
 have HC0_0 := Aside0.mk hc0_0
 clear hr0_0 hc0_0
 have HR1_0 := Aside0.mk hr1_0
 have HC1_0 := Aside0.mk hc1_0
 clear hr1_0 hc1_0
 have HB := Aside0.mk (Below.refl w.heap.size w)
 have H : (if (l0_0.length : Int) = (l1_0.length : Int) then (spec_SameGrammar.l0 k 0 l0_0 l1_0) else (some false)) = some r := h
 clear h
 by_cases c3 : (l0_0.length : Int) = (l1_0.length : Int)
 ·rw [if_pos c3] at H
  have c3b0 : ((l0_0.length : Int) == (l1_0.length : Int)) = true := beq_iff_eq.mpr c3
  have c3b1 : ((l0_0.length : Int) != (l1_0.length : Int)) = false := bne_eq_false_iff_eq.mpr c3
  have c3b2 : (l0_0.length == l1_0.length) = true := by first | simpa using c3 | (simp at c3 ⊢; omega)
  clear c3
  have H' := Aside0.mk H
  clear H
  go_enter Try.func46, Try.ntmps46
  go_wp2_with (first | ((with_reducible refine gate_dst (N := 2) rfl ?_); (try (refine gate_guard (by rfl) ?_; dsimp only)); refine box_event ?hg (N := 2) ?hd (cs := #[.slice A0_0 l0_0.length c0_0]) (t := 83) ?hr ?_; (case hd => rfl); (case hg => rfl); (case hr => first | (go_simp; done) | (go_simp; rfl)); intro gb139 hg w4 hbox hb; have n0_ := Aside0.mk (below_step bw hb); have n1_ := Aside0.mk (hbox); have n2_ := Aside0.mk ((bz bw hg : w.heap.size ≤ gb139)); have n3_ := Aside0.mk ((bz bw hg : w.heap.size ≤ gb139)); clear HB; have HB := n0_; have BK139 := n1_; have GW139 := n2_; have GE139 := n3_; clear n0_ n1_ n2_ n3_; clear hb hbox hg) | ((with_reducible refine gate_dst (N := 3) rfl ?_); (try (refine gate_guard (by rfl) ?_; dsimp only)); refine box_event ?hg (N := 3) ?hd (cs := #[.slice A1_0 l1_0.length c1_0]) (t := 83) ?hr ?_; (case hd => rfl); (case hg => rfl); (case hr => first | (go_simp; done) | (go_simp; rfl)); intro gb140 hg w5 hbox hb; have n0_ := Aside0.mk (blk_below (g := gb139) (o := .cells #[.slice A0_0 l0_0.length c0_0] 83 (0, 0)) bx hb); have n1_ := Aside0.mk (below_step bw hb); have n2_ := Aside0.mk (hbox); have n3_ := Aside0.mk ((bz bw hg : w.heap.size ≤ gb140)); have n4_ := Aside0.mk ((bz bw hg : w.heap.size ≤ gb140)); have n5_ := Aside0.mk ((bl bx hg : gb139 ≠ gb140)); have n6_ := Aside0.mk ((bl' bx hg : gb140 ≠ gb139)); clear BK139; clear HB; have BK139 := n0_; have HB := n1_; have BK140 := n2_; have GW140 := n3_; have GE140 := n4_; have NB139_140 := n5_; have NB140_139 := n6_; clear n0_ n1_ n2_ n3_ n4_ n5_ n6_; clear hb hbox hg; have hnb6 := NB139_140.out; have hnc6 := NB140_139.out; obtain ⟨hcz7_0, hfz7_0⟩ := bc1 BK139.out; obtain ⟨hcz8_0, hfz8_0⟩ := bc1 BK140.out))
  repeat (go_quiet (fail); try go_wp2_with (fail))
  go_loopg [5] k (fun kq v5 w' => ∃ (x5_1 : Int), v5 = .int .i64 x5_1 ∧ Aside0 (spec_SameGrammar.l0 kq x5_1 l0_0 l1_0 = some r) ∧ Aside0 (kq ≤ k) ∧ Aside0 (w'.heap[gb139]? = some (.cells #[(.slice A0_0 l0_0.length c0_0)] 83 (0, 0))) ∧ Aside0 (w'.heap[gb140]? = some (.cells #[(.slice A1_0 l1_0.length c1_0)] 83 (0, 0))) ∧ Aside0 (Below w.heap.size w w'))
  case atStart => exact ⟨(0), (by first | rfl | (simp; done) | (simp [*]; done) | (simp [isE0, isE1]; done)), H', ⟨Nat.le_refl _⟩, ⟨by (with_reducible repeat (first | refine blk_drewN ?_ _ | refine blk_drew ?_ | refine blk_alloc ?_ _)); exact BK139.out⟩, ⟨by (with_reducible repeat (first | refine blk_drewN ?_ _ | refine blk_drew ?_ | refine blk_alloc ?_ _)); exact BK140.out⟩, ⟨by repeat (first | (with_reducible first | exact HB.out | apply below_alloc | apply pw_below_drewN | apply below_drew1 | refine below_set ?_ GE139.out | refine below_set ?_ GE140.out) | exact HB.out)⟩⟩
  case round =>
   clear H'
   try clear c1
   try clear p2
   try clear c3
   try clear c3b0
   try clear c3b1
   try clear c3b2
   try clear c4
   try clear c6
   try clear hcz7_0
   try clear hcz8_0
   try clear hfz7_0
   try clear hfz8_0
   obtain ⟨x5_1, rfl, HA, HK1, BK139, BK140, HB⟩ := hrel
   cases gk with
   | zero => exact absurd HA.out (by simp [spec_SameGrammar.l0])
   | succ k1 =>
    have H := HA.out
    clear HA
    simp only [spec_SameGrammar.l0] at H
    by_cases c9 : x5_1 < (l0_0.length : Int)
    ·rw [if_pos c9] at H
     have c9b0 : decide (x5_1 < (l0_0.length : Int)) = true := decide_eq_true c9
     clear c9
     by_cases c10 : 0 ≤ x5_1
     ·rw [if_pos c10] at H
      have c10b0 : decide (0 ≤ x5_1) = true := decide_eq_true c10
      clear c10
      by_cases c11 : x5_1 < (l1_0.length : Int)
      ·rw [if_pos c11] at H
       have c11b0 : decide (x5_1 < (l1_0.length : Int)) = true := decide_eq_true c11
       clear c11
       have HC12 := Aside0.mk H
       clear H
       have hnb13 := NB139_140.out
       have hnc13 := NB140_139.out
       obtain ⟨hcz14_0, hfz14_0⟩ := bc1 BK139.out
       have p141 : 0 ≤ (x5_1 : Int) := oa
       have q141 : x5_1 < (l0_0.length : Int) := oa
       obtain ⟨ad141, A141_1, c141_1, A141_2, c141_2, e141, hx141_0, hx141_1, hx141_2, hl141_1, hi141_1, hl141_2, hi141_2⟩ := at_T162 HR0_0.out x5_1 p141 q141
       cases e141
       replace hx141_0 := hbc HB.out hx141_0
       replace hx141_1 := hbc HB.out hx141_1
       replace hx141_2 := hbc HB.out hx141_2
       have HR141_1 := Aside0.mk hi141_1
       have HC141_1 := Aside0.mk hl141_1
       clear hi141_1 hl141_1
       have HR141_2 := Aside0.mk hi141_2
       have HC141_2 := Aside0.mk hl141_2
       clear hi141_2 hl141_2
       replace p141 := eq_true p141
       replace q141 := eq_true q141
       go_upto_region 8 with (first | ((with_reducible refine gate_dst (N := 6) rfl ?_); (try (refine gate_guard (by rfl) ?_; dsimp only)); refine box_event ?hg (N := 6) ?hd (cs := #[.string (⟨#[]⟩ : ByteArray), .slice none 0 0, .slice none 0 0]) (t := 162) ?hr ?_; (case hd => rfl); (case hg => rfl); (case hr => first | (go_simp; done) | (go_simp; rfl)); intro gb142 hg w15 hbox hb; have n0_ := Aside0.mk (blk_below (g := gb139) (o := .cells #[.slice (some ad141) l0_0.length c0_0] 83 (0, 0)) bx hb); have n1_ := Aside0.mk (blk_below (g := gb140) (o := .cells #[.slice A1_0 l1_0.length c1_0] 83 (0, 0)) bx hb); have n2_ := Aside0.mk (below_step bw hb); have n3_ := Aside0.mk (hbox); have n4_ := Aside0.mk ((bz bw hg : w.heap.size ≤ gb142)); have n5_ := Aside0.mk ((bz bw hg : w.heap.size ≤ gb142)); have n6_ := Aside0.mk ((bl bx hg : gb139 ≠ gb142)); have n7_ := Aside0.mk ((bl' bx hg : gb142 ≠ gb139)); have n8_ := Aside0.mk ((bl bx hg : gb140 ≠ gb142)); have n9_ := Aside0.mk ((bl' bx hg : gb142 ≠ gb140)); clear BK139; clear BK140; clear HB; have BK139 := n0_; have BK140 := n1_; have HB := n2_; have BK142 := n3_; have GW142 := n4_; have GE142 := n5_; have NB139_142 := n6_; have NB142_139 := n7_; have NB140_142 := n8_; have NB142_140 := n9_; clear n0_ n1_ n2_ n3_ n4_ n5_ n6_ n7_ n8_ n9_; clear hb hbox hg; have hnb16 := NB142_139.out; have hnc16 := NB139_142.out; have hnb17 := NB142_140.out; have hnc17 := NB140_142.out; obtain ⟨hcz18_0, hcz18_1, hcz18_2, hfz18_0, hfz18_1, hfz18_2⟩ := bc3 BK142.out; obtain ⟨hcz19_0, hfz19_0⟩ := bc1 BK140.out; have p143 : 0 ≤ (x5_1 : Int) := oa; have q143 : x5_1 < (l1_0.length : Int) := oa; obtain ⟨ad143, A143_1, c143_1, A143_2, c143_2, e143, hx143_0, hx143_1, hx143_2, hl143_1, hi143_1, hl143_2, hi143_2⟩ := at_T162 HR1_0.out x5_1 p143 q143; cases e143; have hn143_0 : ad143.block ≠ gb142 := (by first | exact bn hx143_0 GW142.out | exact bm hx143_0 GW142.out); have hn143_1 : ad143.block ≠ gb142 := (by first | exact bn hx143_0 GW142.out | exact bm hx143_0 GW142.out); have hn143_2 : ad143.block ≠ gb142 := (by first | exact bn hx143_0 GW142.out | exact bm hx143_0 GW142.out); replace hx143_0 := hbc HB.out hx143_0; replace hx143_1 := hbc HB.out hx143_1; replace hx143_2 := hbc HB.out hx143_2; have HR143_1 := Aside0.mk hi143_1; have HC143_1 := Aside0.mk hl143_1; clear hi143_1 hl143_1; have HR143_2 := Aside0.mk hi143_2; have HC143_2 := Aside0.mk hl143_2; clear hi143_2 hl143_2; replace hx143_0 := fx ⟨gb142, 0, none⟩ (.string ((rd_T162 l0_0 x5_1).f0)) hx143_0; replace hx143_1 := fx ⟨gb142, 0, none⟩ (.string ((rd_T162 l0_0 x5_1).f0)) hx143_1; replace hx143_2 := fx ⟨gb142, 0, none⟩ (.string ((rd_T162 l0_0 x5_1).f0)) hx143_2; replace hx143_0 := fx ⟨gb142, 1, none⟩ (.slice A141_1 ((rd_T162 l0_0 x5_1).f1).length c141_1) hx143_0; replace hx143_1 := fx ⟨gb142, 1, none⟩ (.slice A141_1 ((rd_T162 l0_0 x5_1).f1).length c141_1) hx143_1; replace hx143_2 := fx ⟨gb142, 1, none⟩ (.slice A141_1 ((rd_T162 l0_0 x5_1).f1).length c141_1) hx143_2; replace hx143_0 := fx ⟨gb142, 2, none⟩ (.slice A141_2 ((rd_T162 l0_0 x5_1).f2).length c141_2) hx143_0; replace hx143_1 := fx ⟨gb142, 2, none⟩ (.slice A141_2 ((rd_T162 l0_0 x5_1).f2).length c141_2) hx143_1; replace hx143_2 := fx ⟨gb142, 2, none⟩ (.slice A141_2 ((rd_T162 l0_0 x5_1).f2).length c141_2) hx143_2; (try have hy143_0 := dn3 hx143_0); (try have hy143_1 := dn3 hx143_1); (try have hy143_2 := dn3 hx143_2); clear hn143_0; clear hn143_1; clear hn143_2; replace p143 := eq_true p143; replace q143 := eq_true q143) | ((with_reducible refine gate_dst (N := 7) rfl ?_); (try (refine gate_guard (by rfl) ?_; dsimp only)); refine box_event ?hg (N := 7) ?hd (cs := #[.string (⟨#[]⟩ : ByteArray), .slice none 0 0, .slice none 0 0]) (t := 162) ?hr ?_; (case hd => rfl); (case hg => rfl); (case hr => first | (go_simp; done) | (go_simp; rfl)); intro gb144 hg w20 hbox hb; have n0_ := Aside0.mk (blk_below (g := gb139) (o := .cells #[.slice (some ad141) l0_0.length c0_0] 83 (0, 0)) bx hb); have n1_ := Aside0.mk (blk_below (g := gb140) (o := .cells #[.slice (some ad143) l1_0.length c1_0] 83 (0, 0)) bx hb); have n2_ := Aside0.mk (blk_below (g := gb142) (o := .cells #[.string ((rd_T162 l0_0 x5_1).f0), .slice A141_1 ((rd_T162 l0_0 x5_1).f1).length c141_1, .slice A141_2 ((rd_T162 l0_0 x5_1).f2).length c141_2] 162 (0, 0)) bx hb); have n3_ := Aside0.mk (below_step bw hb); have n4_ := Aside0.mk (hbox); have n5_ := Aside0.mk ((bz bw hg : w.heap.size ≤ gb144)); have n6_ := Aside0.mk ((bz bw hg : w.heap.size ≤ gb144)); have n7_ := Aside0.mk ((bl bx hg : gb139 ≠ gb144)); have n8_ := Aside0.mk ((bl' bx hg : gb144 ≠ gb139)); have n9_ := Aside0.mk ((bl bx hg : gb140 ≠ gb144)); have n10_ := Aside0.mk ((bl' bx hg : gb144 ≠ gb140)); have n11_ := Aside0.mk ((bl bx hg : gb142 ≠ gb144)); have n12_ := Aside0.mk ((bl' bx hg : gb144 ≠ gb142)); clear BK139; clear BK140; clear BK142; clear HB; have BK139 := n0_; have BK140 := n1_; have BK142 := n2_; have HB := n3_; have BK144 := n4_; have GW144 := n5_; have GE144 := n6_; have NB139_144 := n7_; have NB144_139 := n8_; have NB140_144 := n9_; have NB144_140 := n10_; have NB142_144 := n11_; have NB144_142 := n12_; clear n0_ n1_ n2_ n3_ n4_ n5_ n6_ n7_ n8_ n9_ n10_ n11_ n12_; clear hb hbox hg; have hnb21 := NB144_139.out; have hnc21 := NB139_144.out; have hnb22 := NB144_140.out; have hnc22 := NB140_144.out; have hnb23 := NB144_142.out; have hnc23 := NB142_144.out; obtain ⟨hcz24_0, hcz24_1, hcz24_2, hfz24_0, hfz24_1, hfz24_2⟩ := bc3 BK144.out))
       repeat (go_quiet (fail); go_upto_region 8 with (fail))
       (try simp only [Act.put, List.setIfInBounds_toArray, List.set_cons_zero, List.set_cons_succ])
       go_cut [57] (fun v57 wc => ∃ (kq : Nat) (x57_11 : Bool), v57 = .bool x57_11 ∧ Aside0 (spec_SameGrammar.j1 kq x5_1 x57_11 l0_0 l1_0 ((rd_T162 l0_0 x5_1).f0) ((rd_T162 l0_0 x5_1).f1) ((rd_T162 l0_0 x5_1).f2) ((rd_T162 l1_0 x5_1).f0) ((rd_T162 l1_0 x5_1).f1) ((rd_T162 l1_0 x5_1).f2) = some r) ∧ Aside0 (kq ≤ k1) ∧ Aside0 (wc.heap[gb139]? = some (.cells #[(.slice (some ad141) l0_0.length c0_0)] 83 (0, 0))) ∧ Aside0 (wc.heap[gb140]? = some (.cells #[(.slice (some ad143) l1_0.length c1_0)] 83 (0, 0))) ∧ Aside0 (wc.heap[gb142]? = some (.cells #[.string ((rd_T162 l0_0 x5_1).f0), (.slice A141_1 ((rd_T162 l0_0 x5_1).f1).length c141_1), (.slice A141_2 ((rd_T162 l0_0 x5_1).f2).length c141_2)] 162 (0, 0))) ∧ Aside0 (wc.heap[gb144]? = some (.cells #[.string ((rd_T162 l1_0 x5_1).f0), (.slice A143_1 ((rd_T162 l1_0 x5_1).f1).length c143_1), (.slice A143_2 ((rd_T162 l1_0 x5_1).f2).length c143_2)] 162 (0, 0))) ∧ Aside0 (Below w.heap.size w wc))
       case first =>
        have H := HC12.out
        clear HC12
        by_cases c25 : ((rd_T162 l0_0 x5_1).f0).toList = ((rd_T162 l1_0 x5_1).f0).toList
        ·rw [if_pos c25] at H
         have c25b0 : (((rd_T162 l0_0 x5_1).f0).toList == ((rd_T162 l1_0 x5_1).f0).toList) = true := beq_iff_eq.mpr c25
         have c25b1 : (((rd_T162 l0_0 x5_1).f0).toList != ((rd_T162 l1_0 x5_1).f0).toList) = false := bne_eq_false_iff_eq.mpr c25
         clear c25
         (first | rw [c25b0] | (simp only [i64_w, i32_w]; rw [c25b0]) | skip)
         replace H := Option.bind_eq_some_iff.mp H
         obtain ⟨t145, A260, H⟩ := H
         replace H : (if t145 = true then (spec_SameGrammar.j1 k1 x5_1 ((((rd_T162 l0_0 x5_1).f2).length : Int) != (((rd_T162 l1_0 x5_1).f2).length : Int)) l0_0 l1_0 ((rd_T162 l0_0 x5_1).f0) ((rd_T162 l0_0 x5_1).f1) ((rd_T162 l0_0 x5_1).f2) ((rd_T162 l1_0 x5_1).f0) ((rd_T162 l1_0 x5_1).f1) ((rd_T162 l1_0 x5_1).f2)) else (spec_SameGrammar.j1 k1 x5_1 true l0_0 l1_0 ((rd_T162 l0_0 x5_1).f0) ((rd_T162 l0_0 x5_1).f1) ((rd_T162 l0_0 x5_1).f2) ((rd_T162 l1_0 x5_1).f0) ((rd_T162 l1_0 x5_1).f1) ((rd_T162 l1_0 x5_1).f2))) = some r := H
         have A26 := Aside0.mk A260
         clear A260
         by_cases c27 : t145 = true
         ·subst c27
          have H1 : (spec_SameGrammar.j1 k1 x5_1 ((((rd_T162 l0_0 x5_1).f2).length : Int) != (((rd_T162 l1_0 x5_1).f2).length : Int)) l0_0 l1_0 ((rd_T162 l0_0 x5_1).f0) ((rd_T162 l0_0 x5_1).f1) ((rd_T162 l0_0 x5_1).f2) ((rd_T162 l1_0 x5_1).f0) ((rd_T162 l1_0 x5_1).f1) ((rd_T162 l1_0 x5_1).f2)) = some r := by rw [if_pos rfl] at H; exact H
          clear H
          have H := H1
          clear H1
          have H' := Aside0.mk H
          clear H
          have hnb28 := NB142_139.out
          have hnc28 := NB139_142.out
          have hnb29 := NB142_140.out
          have hnc29 := NB140_142.out
          have hnb30 := NB142_144.out
          have hnc30 := NB144_142.out
          obtain ⟨hcz31_0, hcz31_1, hcz31_2, hfz31_0, hfz31_1, hfz31_2⟩ := bc3 BK142.out
          have hnb32 := NB144_139.out
          have hnc32 := NB139_144.out
          have hnb33 := NB144_140.out
          have hnc33 := NB140_144.out
          obtain ⟨hcz34_0, hcz34_1, hcz34_2, hfz34_0, hfz34_1, hfz34_2⟩ := bc3 BK144.out
          go_wp2_with (first | (go_at_call 101; (with_reducible refine (spec_l11SameTexts.calls k1 _ _ ((rd_T162 l0_0 x5_1).f1) _ _ ((rd_T162 l1_0 x5_1).f1) true _ ?side1 ?side2 ?side3 ?side4 A26.out).mono ?_); (case side1 => exact Kd.C_below HR141_1.out bw); (case side2 => exact HC141_1.out); (case side3 => exact Kd.C_below HR143_1.out bw); (case side4 => exact HC143_1.out); rintro e w' ⟨rfl, ⟨nd, rfl⟩⟩; (try first | exact ⟨rfl, _, World.drewN_drewN _ _ _⟩ | exact ⟨rfl, _, Eq.trans (World.drewN_drewN _ _ _) (congrArg (World.drewN _) (Nat.add_assoc _ _ _))⟩)))
          repeat (go_quiet (fail); try go_wp2_with (fail))
          go_meet
          case rel => exact ⟨_, (((((rd_T162 l0_0 x5_1).f2).length : Int) != (((rd_T162 l1_0 x5_1).f2).length : Int))), (by first | rfl | (simp; done) | (simp [*]; done) | (simp [isE0, isE1]; done)), H', ⟨by have := HK1.out; first | omega | exact Nat.le_refl _⟩, ⟨by (with_reducible repeat (first | refine blk_drewN ?_ _ | refine blk_drew ?_ | refine blk_alloc ?_ _)); refine blk_far ?_ NB139_144.out _; (with_reducible repeat (first | refine blk_drewN ?_ _ | refine blk_drew ?_ | refine blk_alloc ?_ _)); refine blk_far ?_ NB139_144.out _; (with_reducible repeat (first | refine blk_drewN ?_ _ | refine blk_drew ?_ | refine blk_alloc ?_ _)); refine blk_far ?_ NB139_144.out _; (with_reducible repeat (first | refine blk_drewN ?_ _ | refine blk_drew ?_ | refine blk_alloc ?_ _)); exact BK139.out⟩, ⟨by (with_reducible repeat (first | refine blk_drewN ?_ _ | refine blk_drew ?_ | refine blk_alloc ?_ _)); refine blk_far ?_ NB140_144.out _; (with_reducible repeat (first | refine blk_drewN ?_ _ | refine blk_drew ?_ | refine blk_alloc ?_ _)); refine blk_far ?_ NB140_144.out _; (with_reducible repeat (first | refine blk_drewN ?_ _ | refine blk_drew ?_ | refine blk_alloc ?_ _)); refine blk_far ?_ NB140_144.out _; (with_reducible repeat (first | refine blk_drewN ?_ _ | refine blk_drew ?_ | refine blk_alloc ?_ _)); exact BK140.out⟩, ⟨by (with_reducible repeat (first | refine blk_drewN ?_ _ | refine blk_drew ?_ | refine blk_alloc ?_ _)); refine blk_far ?_ NB142_144.out _; (with_reducible repeat (first | refine blk_drewN ?_ _ | refine blk_drew ?_ | refine blk_alloc ?_ _)); refine blk_far ?_ NB142_144.out _; (with_reducible repeat (first | refine blk_drewN ?_ _ | refine blk_drew ?_ | refine blk_alloc ?_ _)); refine blk_far ?_ NB142_144.out _; (with_reducible repeat (first | refine blk_drewN ?_ _ | refine blk_drew ?_ | refine blk_alloc ?_ _)); exact BK142.out⟩, ⟨by (with_reducible repeat (first | refine blk_drewN ?_ _ | refine blk_drew ?_ | refine blk_alloc ?_ _)); refine blk_put (cs := #[.string ((rd_T162 l1_0 x5_1).f0), .slice A143_1 ((rd_T162 l1_0 x5_1).f1).length c143_1, .slice none 0 0]) ?_ 2 _ rfl; (with_reducible repeat (first | refine blk_drewN ?_ _ | refine blk_drew ?_ | refine blk_alloc ?_ _)); refine blk_put (cs := #[.string ((rd_T162 l1_0 x5_1).f0), .slice none 0 0, .slice none 0 0]) ?_ 1 _ rfl; (with_reducible repeat (first | refine blk_drewN ?_ _ | refine blk_drew ?_ | refine blk_alloc ?_ _)); refine blk_put (cs := #[.string (⟨#[]⟩ : ByteArray), .slice none 0 0, .slice none 0 0]) ?_ 0 _ rfl; (with_reducible repeat (first | refine blk_drewN ?_ _ | refine blk_drew ?_ | refine blk_alloc ?_ _)); exact BK144.out⟩, ⟨by repeat (first | (with_reducible first | exact HB.out | apply below_alloc | apply pw_below_drewN | apply below_drew1 | refine below_set ?_ GE139.out | refine below_set ?_ GE140.out | refine below_set ?_ GE142.out | refine below_set ?_ GE144.out) | exact HB.out)⟩⟩
         ·replace c27 := Bool.eq_false_iff.mpr c27
          subst c27
          have H1 : (spec_SameGrammar.j1 k1 x5_1 true l0_0 l1_0 ((rd_T162 l0_0 x5_1).f0) ((rd_T162 l0_0 x5_1).f1) ((rd_T162 l0_0 x5_1).f2) ((rd_T162 l1_0 x5_1).f0) ((rd_T162 l1_0 x5_1).f1) ((rd_T162 l1_0 x5_1).f2)) = some r := by rw [if_neg (show ¬ (false = true) by decide)] at H; exact H
          clear H
          have H := H1
          clear H1
          have H' := Aside0.mk H
          clear H
          have hnb35 := NB142_139.out
          have hnc35 := NB139_142.out
          have hnb36 := NB142_140.out
          have hnc36 := NB140_142.out
          have hnb37 := NB142_144.out
          have hnc37 := NB144_142.out
          obtain ⟨hcz38_0, hcz38_1, hcz38_2, hfz38_0, hfz38_1, hfz38_2⟩ := bc3 BK142.out
          have hnb39 := NB144_139.out
          have hnc39 := NB139_144.out
          have hnb40 := NB144_140.out
          have hnc40 := NB140_144.out
          obtain ⟨hcz41_0, hcz41_1, hcz41_2, hfz41_0, hfz41_1, hfz41_2⟩ := bc3 BK144.out
          go_wp2_with (first | (go_at_call 101; (with_reducible refine (spec_l11SameTexts.calls k1 _ _ ((rd_T162 l0_0 x5_1).f1) _ _ ((rd_T162 l1_0 x5_1).f1) false _ ?side1 ?side2 ?side3 ?side4 A26.out).mono ?_); (case side1 => exact Kd.C_below HR141_1.out bw); (case side2 => exact HC141_1.out); (case side3 => exact Kd.C_below HR143_1.out bw); (case side4 => exact HC143_1.out); rintro e w' ⟨rfl, ⟨nd, rfl⟩⟩; (try first | exact ⟨rfl, _, World.drewN_drewN _ _ _⟩ | exact ⟨rfl, _, Eq.trans (World.drewN_drewN _ _ _) (congrArg (World.drewN _) (Nat.add_assoc _ _ _))⟩)))
          repeat (go_quiet (fail); try go_wp2_with (fail))
          go_meet
          case rel => exact ⟨_, (true), (by first | rfl | (simp; done) | (simp [*]; done) | (simp [isE0, isE1]; done)), H', ⟨by have := HK1.out; first | omega | exact Nat.le_refl _⟩, ⟨by (with_reducible repeat (first | refine blk_drewN ?_ _ | refine blk_drew ?_ | refine blk_alloc ?_ _)); refine blk_far ?_ NB139_144.out _; (with_reducible repeat (first | refine blk_drewN ?_ _ | refine blk_drew ?_ | refine blk_alloc ?_ _)); refine blk_far ?_ NB139_144.out _; (with_reducible repeat (first | refine blk_drewN ?_ _ | refine blk_drew ?_ | refine blk_alloc ?_ _)); refine blk_far ?_ NB139_144.out _; (with_reducible repeat (first | refine blk_drewN ?_ _ | refine blk_drew ?_ | refine blk_alloc ?_ _)); exact BK139.out⟩, ⟨by (with_reducible repeat (first | refine blk_drewN ?_ _ | refine blk_drew ?_ | refine blk_alloc ?_ _)); refine blk_far ?_ NB140_144.out _; (with_reducible repeat (first | refine blk_drewN ?_ _ | refine blk_drew ?_ | refine blk_alloc ?_ _)); refine blk_far ?_ NB140_144.out _; (with_reducible repeat (first | refine blk_drewN ?_ _ | refine blk_drew ?_ | refine blk_alloc ?_ _)); refine blk_far ?_ NB140_144.out _; (with_reducible repeat (first | refine blk_drewN ?_ _ | refine blk_drew ?_ | refine blk_alloc ?_ _)); exact BK140.out⟩, ⟨by (with_reducible repeat (first | refine blk_drewN ?_ _ | refine blk_drew ?_ | refine blk_alloc ?_ _)); refine blk_far ?_ NB142_144.out _; (with_reducible repeat (first | refine blk_drewN ?_ _ | refine blk_drew ?_ | refine blk_alloc ?_ _)); refine blk_far ?_ NB142_144.out _; (with_reducible repeat (first | refine blk_drewN ?_ _ | refine blk_drew ?_ | refine blk_alloc ?_ _)); refine blk_far ?_ NB142_144.out _; (with_reducible repeat (first | refine blk_drewN ?_ _ | refine blk_drew ?_ | refine blk_alloc ?_ _)); exact BK142.out⟩, ⟨by (with_reducible repeat (first | refine blk_drewN ?_ _ | refine blk_drew ?_ | refine blk_alloc ?_ _)); refine blk_put (cs := #[.string ((rd_T162 l1_0 x5_1).f0), .slice A143_1 ((rd_T162 l1_0 x5_1).f1).length c143_1, .slice none 0 0]) ?_ 2 _ rfl; (with_reducible repeat (first | refine blk_drewN ?_ _ | refine blk_drew ?_ | refine blk_alloc ?_ _)); refine blk_put (cs := #[.string ((rd_T162 l1_0 x5_1).f0), .slice none 0 0, .slice none 0 0]) ?_ 1 _ rfl; (with_reducible repeat (first | refine blk_drewN ?_ _ | refine blk_drew ?_ | refine blk_alloc ?_ _)); refine blk_put (cs := #[.string (⟨#[]⟩ : ByteArray), .slice none 0 0, .slice none 0 0]) ?_ 0 _ rfl; (with_reducible repeat (first | refine blk_drewN ?_ _ | refine blk_drew ?_ | refine blk_alloc ?_ _)); exact BK144.out⟩, ⟨by repeat (first | (with_reducible first | exact HB.out | apply below_alloc | apply pw_below_drewN | apply below_drew1 | refine below_set ?_ GE139.out | refine below_set ?_ GE140.out | refine below_set ?_ GE142.out | refine below_set ?_ GE144.out) | exact HB.out)⟩⟩
        ·rw [if_neg c25] at H
         have c25b0 : (((rd_T162 l0_0 x5_1).f0).toList == ((rd_T162 l1_0 x5_1).f0).toList) = false := beq_eq_false_iff_ne.mpr c25
         have c25b1 : (((rd_T162 l0_0 x5_1).f0).toList != ((rd_T162 l1_0 x5_1).f0).toList) = true := bne_iff_ne.mpr c25
         (first | rw [c25b0] | (simp only [i64_w, i32_w]; rw [c25b0]) | skip)
         have H' := Aside0.mk H
         clear H
         have hnb42 := NB142_139.out
         have hnc42 := NB139_142.out
         have hnb43 := NB142_140.out
         have hnc43 := NB140_142.out
         have hnb44 := NB142_144.out
         have hnc44 := NB144_142.out
         obtain ⟨hcz45_0, hcz45_1, hcz45_2, hfz45_0, hfz45_1, hfz45_2⟩ := bc3 BK142.out
         have hnb46 := NB144_139.out
         have hnc46 := NB139_144.out
         have hnb47 := NB144_140.out
         have hnc47 := NB140_144.out
         obtain ⟨hcz48_0, hcz48_1, hcz48_2, hfz48_0, hfz48_1, hfz48_2⟩ := bc3 BK144.out
         go_wp2
         repeat (go_quiet (fail); try go_wp2)
         go_meet
         case rel => exact ⟨_, (true), (by first | rfl | (simp; done) | (simp [*]; done) | (simp [isE0, isE1]; done)), H', ⟨by have := HK1.out; first | omega | exact Nat.le_refl _⟩, ⟨by (with_reducible repeat (first | refine blk_drewN ?_ _ | refine blk_drew ?_ | refine blk_alloc ?_ _)); refine blk_far ?_ NB139_144.out _; (with_reducible repeat (first | refine blk_drewN ?_ _ | refine blk_drew ?_ | refine blk_alloc ?_ _)); refine blk_far ?_ NB139_144.out _; (with_reducible repeat (first | refine blk_drewN ?_ _ | refine blk_drew ?_ | refine blk_alloc ?_ _)); refine blk_far ?_ NB139_144.out _; (with_reducible repeat (first | refine blk_drewN ?_ _ | refine blk_drew ?_ | refine blk_alloc ?_ _)); exact BK139.out⟩, ⟨by (with_reducible repeat (first | refine blk_drewN ?_ _ | refine blk_drew ?_ | refine blk_alloc ?_ _)); refine blk_far ?_ NB140_144.out _; (with_reducible repeat (first | refine blk_drewN ?_ _ | refine blk_drew ?_ | refine blk_alloc ?_ _)); refine blk_far ?_ NB140_144.out _; (with_reducible repeat (first | refine blk_drewN ?_ _ | refine blk_drew ?_ | refine blk_alloc ?_ _)); refine blk_far ?_ NB140_144.out _; (with_reducible repeat (first | refine blk_drewN ?_ _ | refine blk_drew ?_ | refine blk_alloc ?_ _)); exact BK140.out⟩, ⟨by (with_reducible repeat (first | refine blk_drewN ?_ _ | refine blk_drew ?_ | refine blk_alloc ?_ _)); refine blk_far ?_ NB142_144.out _; (with_reducible repeat (first | refine blk_drewN ?_ _ | refine blk_drew ?_ | refine blk_alloc ?_ _)); refine blk_far ?_ NB142_144.out _; (with_reducible repeat (first | refine blk_drewN ?_ _ | refine blk_drew ?_ | refine blk_alloc ?_ _)); refine blk_far ?_ NB142_144.out _; (with_reducible repeat (first | refine blk_drewN ?_ _ | refine blk_drew ?_ | refine blk_alloc ?_ _)); exact BK142.out⟩, ⟨by (with_reducible repeat (first | refine blk_drewN ?_ _ | refine blk_drew ?_ | refine blk_alloc ?_ _)); refine blk_put (cs := #[.string ((rd_T162 l1_0 x5_1).f0), .slice A143_1 ((rd_T162 l1_0 x5_1).f1).length c143_1, .slice none 0 0]) ?_ 2 _ rfl; (with_reducible repeat (first | refine blk_drewN ?_ _ | refine blk_drew ?_ | refine blk_alloc ?_ _)); refine blk_put (cs := #[.string ((rd_T162 l1_0 x5_1).f0), .slice none 0 0, .slice none 0 0]) ?_ 1 _ rfl; (with_reducible repeat (first | refine blk_drewN ?_ _ | refine blk_drew ?_ | refine blk_alloc ?_ _)); refine blk_put (cs := #[.string (⟨#[]⟩ : ByteArray), .slice none 0 0, .slice none 0 0]) ?_ 0 _ rfl; (with_reducible repeat (first | refine blk_drewN ?_ _ | refine blk_drew ?_ | refine blk_alloc ?_ _)); exact BK144.out⟩, ⟨by repeat (first | (with_reducible first | exact HB.out | apply below_alloc | apply pw_below_drewN | apply below_drew1 | refine below_set ?_ GE139.out | refine below_set ?_ GE140.out | refine below_set ?_ GE142.out | refine below_set ?_ GE144.out) | exact HB.out)⟩⟩
       case rest =>
        clear HC12
        try clear c1
        try clear p1
        try clear q1
        try clear hx1
        try clear c2
        try clear p2
        try clear c3
        try clear c3b0
        try clear c3b1
        try clear c3b2
        try clear c4
        try clear c6
        try clear c9
        try clear c9b0
        try clear c10
        try clear c10b0
        try clear c11
        try clear c11b0
        try clear c13
        try clear c14
        try clear p14
        try clear q14
        try clear hx14
        try clear c16
        try clear c17
        try clear c21
        try clear c22
        try clear c23
        try clear c25
        try clear c25b0
        try clear c25b1
        try clear c27
        try clear c28
        try clear c29
        try clear c30
        try clear c32
        try clear c33
        try clear c35
        try clear c36
        try clear c37
        try clear c39
        try clear c40
        try clear c42
        try clear c43
        try clear c44
        try clear c46
        try clear c47
        try clear hcz14_0
        try clear hcz18_0
        try clear hcz18_1
        try clear hcz18_2
        try clear hcz19_0
        try clear hcz24_0
        try clear hcz24_1
        try clear hcz24_2
        try clear hcz31_0
        try clear hcz31_1
        try clear hcz31_2
        try clear hcz34_0
        try clear hcz34_1
        try clear hcz34_2
        try clear hcz38_0
        try clear hcz38_1
        try clear hcz38_2
        try clear hcz41_0
        try clear hcz41_1
        try clear hcz41_2
        try clear hcz45_0
        try clear hcz45_1
        try clear hcz45_2
        try clear hcz48_0
        try clear hcz48_1
        try clear hcz48_2
        try clear hcz7_0
        try clear hcz8_0
        try clear hfz14_0
        try clear hfz18_0
        try clear hfz18_1
        try clear hfz18_2
        try clear hfz19_0
        try clear hfz24_0
        try clear hfz24_1
        try clear hfz24_2
        try clear hfz31_0
        try clear hfz31_1
        try clear hfz31_2
        try clear hfz34_0
        try clear hfz34_1
        try clear hfz34_2
        try clear hfz38_0
        try clear hfz38_1
        try clear hfz38_2
        try clear hfz41_0
        try clear hfz41_1
        try clear hfz41_2
        try clear hfz45_0
        try clear hfz45_1
        try clear hfz45_2
        try clear hfz48_0
        try clear hfz48_1
        try clear hfz48_2
        try clear hfz7_0
        try clear hfz8_0
        try clear hx141_0
        try clear hx141_1
        try clear hx141_2
        try clear hx143_0
        try clear hx143_1
        try clear hx143_2
        try clear p141
        try clear p143
        try clear p2
        try clear q141
        try clear q143
        obtain ⟨kq, x57_11, rfl, HA, HJ11, BK139, BK140, BK142, BK144, HB⟩ := hcut
        cases kq with
        | zero => exact absurd HA.out (by simp [spec_SameGrammar.j1])
        | succ kj11 =>
         have H := HA.out
         clear HA
         simp only [spec_SameGrammar.j1] at H
         by_cases c49 : x57_11 = true
         ·subst c49
          have H1 : (some false) = some r := by rw [if_pos rfl] at H; exact H
          clear H
          have H := H1
          clear H1
          obtain rfl := Option.some.inj H
          go_wp2
          repeat (go_quiet (fail); try go_wp2)
          go_ret
          exact ⟨by first | rfl | (simp [errW_none, errW_some] <;> rfl) | (simp [*, errW_none, errW_some] <;> rfl), by repeat (first | (with_reducible first | exact HB.out | apply below_alloc | apply pw_below_drewN | apply below_drew1 | refine below_set ?_ GE139.out | refine below_set ?_ GE140.out | refine below_set ?_ GE142.out | refine below_set ?_ GE144.out) | exact HB.out)⟩
         ·replace c49 := Bool.eq_false_iff.mpr c49
          subst c49
          have H1 : (spec_SameGrammar.l1 kj11 x5_1 0 l0_0 l1_0 ((rd_T162 l0_0 x5_1).f0) ((rd_T162 l0_0 x5_1).f1) ((rd_T162 l0_0 x5_1).f2) ((rd_T162 l1_0 x5_1).f0) ((rd_T162 l1_0 x5_1).f1) ((rd_T162 l1_0 x5_1).f2)) = some r := by rw [if_neg (show ¬ (false = true) by decide)] at H; exact H
          clear H
          have H := H1
          clear H1
          have H' := Aside0.mk H
          clear H
          go_wp2
          repeat (go_quiet (fail); try go_wp2)
          go_loopg [8] kj11 (fun kq v8 w' => ∃ (x8_3 : Int), v8 = .int .i64 x8_3 ∧ Aside0 (spec_SameGrammar.l1 kq x5_1 x8_3 l0_0 l1_0 ((rd_T162 l0_0 x5_1).f0) ((rd_T162 l0_0 x5_1).f1) ((rd_T162 l0_0 x5_1).f2) ((rd_T162 l1_0 x5_1).f0) ((rd_T162 l1_0 x5_1).f1) ((rd_T162 l1_0 x5_1).f2) = some r) ∧ Aside0 (kq ≤ kj11) ∧ Aside0 (w'.heap[gb139]? = some (.cells #[(.slice (some ad141) l0_0.length c0_0)] 83 (0, 0))) ∧ Aside0 (w'.heap[gb140]? = some (.cells #[(.slice (some ad143) l1_0.length c1_0)] 83 (0, 0))) ∧ Aside0 (w'.heap[gb142]? = some (.cells #[.string ((rd_T162 l0_0 x5_1).f0), (.slice A141_1 ((rd_T162 l0_0 x5_1).f1).length c141_1), (.slice A141_2 ((rd_T162 l0_0 x5_1).f2).length c141_2)] 162 (0, 0))) ∧ Aside0 (w'.heap[gb144]? = some (.cells #[.string ((rd_T162 l1_0 x5_1).f0), (.slice A143_1 ((rd_T162 l1_0 x5_1).f1).length c143_1), (.slice A143_2 ((rd_T162 l1_0 x5_1).f2).length c143_2)] 162 (0, 0))) ∧ Aside0 (Below w.heap.size w w'))
          case atStart => exact ⟨(0), (by first | rfl | (simp; done) | (simp [*]; done) | (simp [isE0, isE1]; done)), H', ⟨Nat.le_refl _⟩, ⟨by (with_reducible repeat (first | refine blk_drewN ?_ _ | refine blk_drew ?_ | refine blk_alloc ?_ _)); exact BK139.out⟩, ⟨by (with_reducible repeat (first | refine blk_drewN ?_ _ | refine blk_drew ?_ | refine blk_alloc ?_ _)); exact BK140.out⟩, ⟨by (with_reducible repeat (first | refine blk_drewN ?_ _ | refine blk_drew ?_ | refine blk_alloc ?_ _)); exact BK142.out⟩, ⟨by (with_reducible repeat (first | refine blk_drewN ?_ _ | refine blk_drew ?_ | refine blk_alloc ?_ _)); exact BK144.out⟩, ⟨by repeat (first | (with_reducible first | exact HB.out | apply below_alloc | apply pw_below_drewN | apply below_drew1 | refine below_set ?_ GE139.out | refine below_set ?_ GE140.out | refine below_set ?_ GE142.out | refine below_set ?_ GE144.out) | exact HB.out)⟩⟩
          case round =>
           clear H'
           try clear c1
           try clear p1
           try clear q1
           try clear hx1
           try clear c2
           try clear p2
           try clear c3
           try clear c3b0
           try clear c3b1
           try clear c3b2
           try clear c4
           try clear c6
           try clear c9
           try clear c9b0
           try clear c10
           try clear c10b0
           try clear c11
           try clear c11b0
           try clear c13
           try clear c14
           try clear p14
           try clear q14
           try clear hx14
           try clear c16
           try clear c17
           try clear c21
           try clear c22
           try clear c23
           try clear c25
           try clear c25b0
           try clear c25b1
           try clear c27
           try clear c28
           try clear c29
           try clear c30
           try clear c32
           try clear c33
           try clear c35
           try clear c36
           try clear c37
           try clear c39
           try clear c40
           try clear c42
           try clear c43
           try clear c44
           try clear c46
           try clear c47
           try clear c49
           try clear hcz14_0
           try clear hcz18_0
           try clear hcz18_1
           try clear hcz18_2
           try clear hcz19_0
           try clear hcz24_0
           try clear hcz24_1
           try clear hcz24_2
           try clear hcz31_0
           try clear hcz31_1
           try clear hcz31_2
           try clear hcz34_0
           try clear hcz34_1
           try clear hcz34_2
           try clear hcz38_0
           try clear hcz38_1
           try clear hcz38_2
           try clear hcz41_0
           try clear hcz41_1
           try clear hcz41_2
           try clear hcz45_0
           try clear hcz45_1
           try clear hcz45_2
           try clear hcz48_0
           try clear hcz48_1
           try clear hcz48_2
           try clear hcz7_0
           try clear hcz8_0
           try clear hfz14_0
           try clear hfz18_0
           try clear hfz18_1
           try clear hfz18_2
           try clear hfz19_0
           try clear hfz24_0
           try clear hfz24_1
           try clear hfz24_2
           try clear hfz31_0
           try clear hfz31_1
           try clear hfz31_2
           try clear hfz34_0
           try clear hfz34_1
           try clear hfz34_2
           try clear hfz38_0
           try clear hfz38_1
           try clear hfz38_2
           try clear hfz41_0
           try clear hfz41_1
           try clear hfz41_2
           try clear hfz45_0
           try clear hfz45_1
           try clear hfz45_2
           try clear hfz48_0
           try clear hfz48_1
           try clear hfz48_2
           try clear hfz7_0
           try clear hfz8_0
           try clear hx141_0
           try clear hx141_1
           try clear hx141_2
           try clear hx143_0
           try clear hx143_1
           try clear hx143_2
           try clear p1
           try clear p14
           try clear p141
           try clear p143
           try clear p2
           try clear q1
           try clear q14
           try clear q141
           try clear q143
           obtain ⟨x8_3, rfl, HA, HK3, BK139, BK140, BK142, BK144, HB⟩ := hrel
           cases gk with
           | zero => exact absurd HA.out (by simp [spec_SameGrammar.l1])
           | succ k3 =>
            have H := HA.out
            clear HA
            simp only [spec_SameGrammar.l1] at H
            by_cases c50 : x8_3 < (((rd_T162 l0_0 x5_1).f2).length : Int)
            ·rw [if_pos c50] at H
             have c50b0 : decide (x8_3 < (((rd_T162 l0_0 x5_1).f2).length : Int)) = true := decide_eq_true c50
             clear c50
             by_cases c51 : 0 ≤ x8_3
             ·rw [if_pos c51] at H
              have c51b0 : decide (0 ≤ x8_3) = true := decide_eq_true c51
              clear c51
              by_cases c52 : x8_3 < (((rd_T162 l1_0 x5_1).f2).length : Int)
              ·rw [if_pos c52] at H
               have c52b0 : decide (x8_3 < (((rd_T162 l1_0 x5_1).f2).length : Int)) = true := decide_eq_true c52
               clear c52
               by_cases c53 : (((rd_T165 ((rd_T162 l0_0 x5_1).f2) x8_3).f0).length : Int) = (((rd_T165 ((rd_T162 l1_0 x5_1).f2) x8_3).f0).length : Int)
               ·rw [if_pos c53] at H
                have c53b0 : ((((rd_T165 ((rd_T162 l0_0 x5_1).f2) x8_3).f0).length : Int) == (((rd_T165 ((rd_T162 l1_0 x5_1).f2) x8_3).f0).length : Int)) = true := beq_iff_eq.mpr c53
                have c53b1 : ((((rd_T165 ((rd_T162 l0_0 x5_1).f2) x8_3).f0).length : Int) != (((rd_T165 ((rd_T162 l1_0 x5_1).f2) x8_3).f0).length : Int)) = false := bne_eq_false_iff_eq.mpr c53
                have c53b2 : (((rd_T165 ((rd_T162 l0_0 x5_1).f2) x8_3).f0).length == ((rd_T165 ((rd_T162 l1_0 x5_1).f2) x8_3).f0).length) = true := by first | simpa using c53 | (simp at c53 ⊢; omega)
                clear c53
                have H' := Aside0.mk H
                clear H
                have hnb54 := NB142_139.out
                have hnc54 := NB139_142.out
                have hnb55 := NB142_140.out
                have hnc55 := NB140_142.out
                have hnb56 := NB142_144.out
                have hnc56 := NB144_142.out
                obtain ⟨hcz57_0, hcz57_1, hcz57_2, hfz57_0, hfz57_1, hfz57_2⟩ := bc3 BK142.out
                have p146 : 0 ≤ (x8_3 : Int) := oa
                have q146 : x8_3 < (((rd_T162 l0_0 x5_1).f2).length : Int) := oa
                obtain ⟨ad146, A146_0, c146_0, e146, hx146_0, hl146_0, hi146_0⟩ := at_T165 HR141_2.out x8_3 p146 q146
                cases e146
                replace hx146_0 := hbc HB.out hx146_0
                have HR146_0 := Aside0.mk hi146_0
                have HC146_0 := Aside0.mk hl146_0
                clear hi146_0 hl146_0
                replace p146 := eq_true p146
                replace q146 := eq_true q146
                have hnb58 := NB144_139.out
                have hnc58 := NB139_144.out
                have hnb59 := NB144_140.out
                have hnc59 := NB140_144.out
                obtain ⟨hcz60_0, hcz60_1, hcz60_2, hfz60_0, hfz60_1, hfz60_2⟩ := bc3 BK144.out
                have p147 : 0 ≤ (x8_3 : Int) := oa
                have q147 : x8_3 < (((rd_T162 l1_0 x5_1).f2).length : Int) := oa
                obtain ⟨ad147, A147_0, c147_0, e147, hx147_0, hl147_0, hi147_0⟩ := at_T165 HR143_2.out x8_3 p147 q147
                cases e147
                replace hx147_0 := hbc HB.out hx147_0
                have HR147_0 := Aside0.mk hi147_0
                have HC147_0 := Aside0.mk hl147_0
                clear hi147_0 hl147_0
                replace p147 := eq_true p147
                replace q147 := eq_true q147
                go_wp2
                repeat (go_quiet (fail); try go_wp2)
                go_loopg [9] k3 (fun kq v9 w' => ∃ (x9_4 : Int), v9 = .int .i64 x9_4 ∧ Aside0 (spec_SameGrammar.l2 kq x5_1 x8_3 x9_4 l0_0 l1_0 ((rd_T162 l0_0 x5_1).f0) ((rd_T162 l0_0 x5_1).f1) ((rd_T162 l0_0 x5_1).f2) ((rd_T162 l1_0 x5_1).f0) ((rd_T162 l1_0 x5_1).f1) ((rd_T162 l1_0 x5_1).f2) = some r) ∧ Aside0 (kq ≤ k3) ∧ Aside0 (w'.heap[gb139]? = some (.cells #[(.slice (some ad141) l0_0.length c0_0)] 83 (0, 0))) ∧ Aside0 (w'.heap[gb140]? = some (.cells #[(.slice (some ad143) l1_0.length c1_0)] 83 (0, 0))) ∧ Aside0 (w'.heap[gb142]? = some (.cells #[.string ((rd_T162 l0_0 x5_1).f0), (.slice A141_1 ((rd_T162 l0_0 x5_1).f1).length c141_1), (.slice (some ad146) ((rd_T162 l0_0 x5_1).f2).length c141_2)] 162 (0, 0))) ∧ Aside0 (w'.heap[gb144]? = some (.cells #[.string ((rd_T162 l1_0 x5_1).f0), (.slice A143_1 ((rd_T162 l1_0 x5_1).f1).length c143_1), (.slice (some ad147) ((rd_T162 l1_0 x5_1).f2).length c143_2)] 162 (0, 0))) ∧ Aside0 (Below w.heap.size w w'))
                case atStart => exact ⟨(0), (by first | rfl | (simp; done) | (simp [*]; done) | (simp [isE0, isE1]; done)), H', ⟨Nat.le_refl _⟩, ⟨by (with_reducible repeat (first | refine blk_drewN ?_ _ | refine blk_drew ?_ | refine blk_alloc ?_ _)); exact BK139.out⟩, ⟨by (with_reducible repeat (first | refine blk_drewN ?_ _ | refine blk_drew ?_ | refine blk_alloc ?_ _)); exact BK140.out⟩, ⟨by (with_reducible repeat (first | refine blk_drewN ?_ _ | refine blk_drew ?_ | refine blk_alloc ?_ _)); exact BK142.out⟩, ⟨by (with_reducible repeat (first | refine blk_drewN ?_ _ | refine blk_drew ?_ | refine blk_alloc ?_ _)); exact BK144.out⟩, ⟨by repeat (first | (with_reducible first | exact HB.out | apply below_alloc | apply pw_below_drewN | apply below_drew1 | refine below_set ?_ GE139.out | refine below_set ?_ GE140.out | refine below_set ?_ GE142.out | refine below_set ?_ GE144.out) | exact HB.out)⟩⟩
                case round =>
                 clear H'
                 try clear c1
                 try clear p1
                 try clear q1
                 try clear hx1
                 try clear c2
                 try clear p2
                 try clear c3
                 try clear c3b0
                 try clear c3b1
                 try clear c3b2
                 try clear c4
                 try clear c5
                 try clear c6
                 try clear c9
                 try clear c9b0
                 try clear c10
                 try clear c10b0
                 try clear c11
                 try clear c11b0
                 try clear c13
                 try clear c14
                 try clear p14
                 try clear q14
                 try clear hx14
                 try clear c16
                 try clear c17
                 try clear c21
                 try clear c22
                 try clear c23
                 try clear c25
                 try clear c25b0
                 try clear c25b1
                 try clear c27
                 try clear c28
                 try clear c29
                 try clear c30
                 try clear c32
                 try clear c33
                 try clear c35
                 try clear c36
                 try clear c37
                 try clear c39
                 try clear c40
                 try clear c42
                 try clear c43
                 try clear c44
                 try clear c46
                 try clear c47
                 try clear c49
                 try clear c50
                 try clear c50b0
                 try clear c51
                 try clear c51b0
                 try clear c52
                 try clear c52b0
                 try clear c53
                 try clear c53b0
                 try clear c53b1
                 try clear c53b2
                 try clear c54
                 try clear c55
                 try clear c56
                 try clear c58
                 try clear c59
                 try clear hcz14_0
                 try clear hcz18_0
                 try clear hcz18_1
                 try clear hcz18_2
                 try clear hcz19_0
                 try clear hcz24_0
                 try clear hcz24_1
                 try clear hcz24_2
                 try clear hcz31_0
                 try clear hcz31_1
                 try clear hcz31_2
                 try clear hcz34_0
                 try clear hcz34_1
                 try clear hcz34_2
                 try clear hcz38_0
                 try clear hcz38_1
                 try clear hcz38_2
                 try clear hcz41_0
                 try clear hcz41_1
                 try clear hcz41_2
                 try clear hcz45_0
                 try clear hcz45_1
                 try clear hcz45_2
                 try clear hcz48_0
                 try clear hcz48_1
                 try clear hcz48_2
                 try clear hcz57_0
                 try clear hcz57_1
                 try clear hcz57_2
                 try clear hcz60_0
                 try clear hcz60_1
                 try clear hcz60_2
                 try clear hcz7_0
                 try clear hcz8_0
                 try clear hfz14_0
                 try clear hfz18_0
                 try clear hfz18_1
                 try clear hfz18_2
                 try clear hfz19_0
                 try clear hfz24_0
                 try clear hfz24_1
                 try clear hfz24_2
                 try clear hfz31_0
                 try clear hfz31_1
                 try clear hfz31_2
                 try clear hfz34_0
                 try clear hfz34_1
                 try clear hfz34_2
                 try clear hfz38_0
                 try clear hfz38_1
                 try clear hfz38_2
                 try clear hfz41_0
                 try clear hfz41_1
                 try clear hfz41_2
                 try clear hfz45_0
                 try clear hfz45_1
                 try clear hfz45_2
                 try clear hfz48_0
                 try clear hfz48_1
                 try clear hfz48_2
                 try clear hfz57_0
                 try clear hfz57_1
                 try clear hfz57_2
                 try clear hfz60_0
                 try clear hfz60_1
                 try clear hfz60_2
                 try clear hfz7_0
                 try clear hfz8_0
                 try clear hx141_0
                 try clear hx141_1
                 try clear hx141_2
                 try clear hx143_0
                 try clear hx143_1
                 try clear hx143_2
                 try clear hx146_0
                 try clear hx147_0
                 try clear p1
                 try clear p14
                 try clear p141
                 try clear p143
                 try clear p146
                 try clear p147
                 try clear p2
                 try clear q1
                 try clear q14
                 try clear q141
                 try clear q143
                 try clear q146
                 try clear q147
                 obtain ⟨x9_4, rfl, HA, HK4, BK139, BK140, BK142, BK144, HB⟩ := hrel
                 cases gk with
                 | zero => exact absurd HA.out (by simp [spec_SameGrammar.l2])
                 | succ k4 =>
                  have H := HA.out
                  clear HA
                  simp only [spec_SameGrammar.l2] at H
                  by_cases c61 : 0 ≤ x8_3
                  ·rw [if_pos c61] at H
                   have c61b0 : decide (0 ≤ x8_3) = true := decide_eq_true c61
                   clear c61
                   by_cases c62 : x8_3 < (((rd_T162 l0_0 x5_1).f2).length : Int)
                   ·rw [if_pos c62] at H
                    have c62b0 : decide (x8_3 < (((rd_T162 l0_0 x5_1).f2).length : Int)) = true := decide_eq_true c62
                    clear c62
                    by_cases c63 : x9_4 < (((rd_T165 ((rd_T162 l0_0 x5_1).f2) x8_3).f0).length : Int)
                    ·rw [if_pos c63] at H
                     have c63b0 : decide (x9_4 < (((rd_T165 ((rd_T162 l0_0 x5_1).f2) x8_3).f0).length : Int)) = true := decide_eq_true c63
                     clear c63
                     by_cases c64 : 0 ≤ x9_4
                     ·rw [if_pos c64] at H
                      have c64b0 : decide (0 ≤ x9_4) = true := decide_eq_true c64
                      clear c64
                      by_cases c65 : x8_3 < (((rd_T162 l1_0 x5_1).f2).length : Int)
                      ·rw [if_pos c65] at H
                       have c65b0 : decide (x8_3 < (((rd_T162 l1_0 x5_1).f2).length : Int)) = true := decide_eq_true c65
                       clear c65
                       by_cases c66 : x9_4 < (((rd_T165 ((rd_T162 l1_0 x5_1).f2) x8_3).f0).length : Int)
                       ·rw [if_pos c66] at H
                        have c66b0 : decide (x9_4 < (((rd_T165 ((rd_T162 l1_0 x5_1).f2) x8_3).f0).length : Int)) = true := decide_eq_true c66
                        clear c66
                        by_cases c67 : ((rd_T167 ((rd_T165 ((rd_T162 l0_0 x5_1).f2) x8_3).f0) x9_4).f0) = ((rd_T167 ((rd_T165 ((rd_T162 l1_0 x5_1).f2) x8_3).f0) x9_4).f0)
                        ·rw [if_pos c67] at H
                         have c67b0 : (((rd_T167 ((rd_T165 ((rd_T162 l0_0 x5_1).f2) x8_3).f0) x9_4).f0) == ((rd_T167 ((rd_T165 ((rd_T162 l1_0 x5_1).f2) x8_3).f0) x9_4).f0)) = true := beq_iff_eq.mpr c67
                         have c67b1 : (((rd_T167 ((rd_T165 ((rd_T162 l0_0 x5_1).f2) x8_3).f0) x9_4).f0) != ((rd_T167 ((rd_T165 ((rd_T162 l1_0 x5_1).f2) x8_3).f0) x9_4).f0)) = false := bne_eq_false_iff_eq.mpr c67
                         clear c67
                         by_cases c68 : ((rd_T167 ((rd_T165 ((rd_T162 l0_0 x5_1).f2) x8_3).f0) x9_4).f1).toList = ((rd_T167 ((rd_T165 ((rd_T162 l1_0 x5_1).f2) x8_3).f0) x9_4).f1).toList
                         ·rw [if_pos c68] at H
                          have c68b0 : (((rd_T167 ((rd_T165 ((rd_T162 l0_0 x5_1).f2) x8_3).f0) x9_4).f1).toList == ((rd_T167 ((rd_T165 ((rd_T162 l1_0 x5_1).f2) x8_3).f0) x9_4).f1).toList) = true := beq_iff_eq.mpr c68
                          have c68b1 : (((rd_T167 ((rd_T165 ((rd_T162 l0_0 x5_1).f2) x8_3).f0) x9_4).f1).toList != ((rd_T167 ((rd_T165 ((rd_T162 l1_0 x5_1).f2) x8_3).f0) x9_4).f1).toList) = false := bne_eq_false_iff_eq.mpr c68
                          clear c68
                          by_cases c69 : ((rd_T167 ((rd_T165 ((rd_T162 l0_0 x5_1).f2) x8_3).f0) x9_4).f3).toList = ((rd_T167 ((rd_T165 ((rd_T162 l1_0 x5_1).f2) x8_3).f0) x9_4).f3).toList
                          ·rw [if_pos c69] at H
                           have c69b0 : (((rd_T167 ((rd_T165 ((rd_T162 l0_0 x5_1).f2) x8_3).f0) x9_4).f3).toList == ((rd_T167 ((rd_T165 ((rd_T162 l1_0 x5_1).f2) x8_3).f0) x9_4).f3).toList) = true := beq_iff_eq.mpr c69
                           have c69b1 : (((rd_T167 ((rd_T165 ((rd_T162 l0_0 x5_1).f2) x8_3).f0) x9_4).f3).toList != ((rd_T167 ((rd_T165 ((rd_T162 l1_0 x5_1).f2) x8_3).f0) x9_4).f3).toList) = false := bne_eq_false_iff_eq.mpr c69
                           clear c69
                           replace H := Option.bind_eq_some_iff.mp H
                           obtain ⟨t155, A700, H⟩ := H
                           replace H : (if t155 = true then (spec_SameGrammar.l2 k4 x5_1 x8_3 (wrap64 (x9_4 + 1)) l0_0 l1_0 ((rd_T162 l0_0 x5_1).f0) ((rd_T162 l0_0 x5_1).f1) ((rd_T162 l0_0 x5_1).f2) ((rd_T162 l1_0 x5_1).f0) ((rd_T162 l1_0 x5_1).f1) ((rd_T162 l1_0 x5_1).f2)) else (some false)) = some r := H
                           have A70 := Aside0.mk A700
                           clear A700
                           by_cases c71 : t155 = true
                           ·subst c71
                            have H1 : (spec_SameGrammar.l2 k4 x5_1 x8_3 (wrap64 (x9_4 + 1)) l0_0 l1_0 ((rd_T162 l0_0 x5_1).f0) ((rd_T162 l0_0 x5_1).f1) ((rd_T162 l0_0 x5_1).f2) ((rd_T162 l1_0 x5_1).f0) ((rd_T162 l1_0 x5_1).f1) ((rd_T162 l1_0 x5_1).f2)) = some r := by rw [if_pos rfl] at H; exact H
                            clear H
                            have H := H1
                            clear H1
                            have H' := Aside0.mk H
                            clear H
                            have hnb72 := NB142_139.out
                            have hnc72 := NB139_142.out
                            have hnb73 := NB142_140.out
                            have hnc73 := NB140_142.out
                            have hnb74 := NB142_144.out
                            have hnc74 := NB144_142.out
                            obtain ⟨hcz75_0, hcz75_1, hcz75_2, hfz75_0, hfz75_1, hfz75_2⟩ := bc3 BK142.out
                            have p148 : 0 ≤ (x8_3 : Int) := oa
                            have q148 : x8_3 < (((rd_T162 l0_0 x5_1).f2).length : Int) := oa
                            obtain ⟨ad148, A148_0, c148_0, e148, hx148_0, hl148_0, hi148_0⟩ := at_T165 HR141_2.out x8_3 p148 q148
                            obtain rfl : ad146 = ad148 := (by injection e148)
                            replace hx148_0 := hbc HB.out hx148_0
                            have HR148_0 := Aside0.mk hi148_0
                            have HC148_0 := Aside0.mk hl148_0
                            clear hi148_0 hl148_0
                            replace p148 := eq_true p148
                            replace q148 := eq_true q148
                            have p149 : 0 ≤ (x8_3 : Int) := oa
                            have q149 : x8_3 < (((rd_T162 l0_0 x5_1).f2).length : Int) := oa
                            obtain ⟨ad149, A149_0, c149_0, e149, hx149_0, hl149_0, hi149_0⟩ := at_T165 HR141_2.out x8_3 p149 q149
                            obtain rfl : ad146 = ad149 := (by injection e149)
                            replace hx149_0 := hbc HB.out hx149_0
                            have HR149_0 := Aside0.mk hi149_0
                            have HC149_0 := Aside0.mk hl149_0
                            clear hi149_0 hl149_0
                            replace p149 := eq_true p149
                            replace q149 := eq_true q149
                            have ea_ := Option.some.inj (hx148_0.symm.trans hx149_0)
                            injection ea_ with ea_ en_ ec_
                            subst ea_
                            subst ec_
                            clear en_
                            have p150 : 0 ≤ (x9_4 : Int) := oa
                            have q150 : x9_4 < (((rd_T165 ((rd_T162 l0_0 x5_1).f2) x8_3).f0).length : Int) := oa
                            obtain ⟨ad150, A150_2, c150_2, e150, hx150_0, hx150_1, hx150_2, hx150_3, hl150_2, hi150_2⟩ := at_T167 HR149_0.out x9_4 p150 q150
                            cases e150
                            replace hx150_0 := hbc HB.out hx150_0
                            replace hx150_1 := hbc HB.out hx150_1
                            replace hx150_2 := hbc HB.out hx150_2
                            replace hx150_3 := hbc HB.out hx150_3
                            have HR150_2 := Aside0.mk hi150_2
                            have HC150_2 := Aside0.mk hl150_2
                            clear hi150_2 hl150_2
                            replace p150 := eq_true p150
                            replace q150 := eq_true q150
                            go_wp2_with (first | ((with_reducible refine gate_dst (N := 10) rfl ?_); (try (refine gate_guard (by rfl) ?_; dsimp only)); refine box_event ?hg (N := 10) ?hd (cs := #[.int .i64 0, .string (⟨#[]⟩ : ByteArray), .slice none 0 0, .string (⟨#[]⟩ : ByteArray)]) (t := 167) ?hr ?_; (case hd => rfl); (case hg => rfl); (case hr => first | (go_simp; done) | (go_simp; rfl)); intro gb151 hg w76 hbox hb; have n0_ := Aside0.mk (blk_below (g := gb139) (o := .cells #[.slice (some ad141) l0_0.length c0_0] 83 (0, 0)) bx hb); have n1_ := Aside0.mk (blk_below (g := gb140) (o := .cells #[.slice (some ad143) l1_0.length c1_0] 83 (0, 0)) bx hb); have n2_ := Aside0.mk (blk_below (g := gb142) (o := .cells #[.string ((rd_T162 l0_0 x5_1).f0), .slice A141_1 ((rd_T162 l0_0 x5_1).f1).length c141_1, .slice (some ad146) ((rd_T162 l0_0 x5_1).f2).length c141_2] 162 (0, 0)) bx hb); have n3_ := Aside0.mk (blk_below (g := gb144) (o := .cells #[.string ((rd_T162 l1_0 x5_1).f0), .slice A143_1 ((rd_T162 l1_0 x5_1).f1).length c143_1, .slice (some ad147) ((rd_T162 l1_0 x5_1).f2).length c143_2] 162 (0, 0)) bx hb); have n4_ := Aside0.mk (below_step bw hb); have n5_ := Aside0.mk (hbox); have n6_ := Aside0.mk ((bz bw hg : w.heap.size ≤ gb151)); have n7_ := Aside0.mk ((bz bw hg : w.heap.size ≤ gb151)); have n8_ := Aside0.mk ((bl bx hg : gb139 ≠ gb151)); have n9_ := Aside0.mk ((bl' bx hg : gb151 ≠ gb139)); have n10_ := Aside0.mk ((bl bx hg : gb140 ≠ gb151)); have n11_ := Aside0.mk ((bl' bx hg : gb151 ≠ gb140)); have n12_ := Aside0.mk ((bl bx hg : gb142 ≠ gb151)); have n13_ := Aside0.mk ((bl' bx hg : gb151 ≠ gb142)); have n14_ := Aside0.mk ((bl bx hg : gb144 ≠ gb151)); have n15_ := Aside0.mk ((bl' bx hg : gb151 ≠ gb144)); clear BK139; clear BK140; clear BK142; clear BK144; clear HB; have BK139 := n0_; have BK140 := n1_; have BK142 := n2_; have BK144 := n3_; have HB := n4_; have BK151 := n5_; have GW151 := n6_; have GE151 := n7_; have NB139_151 := n8_; have NB151_139 := n9_; have NB140_151 := n10_; have NB151_140 := n11_; have NB142_151 := n12_; have NB151_142 := n13_; have NB144_151 := n14_; have NB151_144 := n15_; clear n0_ n1_ n2_ n3_ n4_ n5_ n6_ n7_ n8_ n9_ n10_ n11_ n12_ n13_ n14_ n15_; clear hb hbox hg; have hnb77 := NB151_139.out; have hnc77 := NB139_151.out; have hnb78 := NB151_140.out; have hnc78 := NB140_151.out; have hnb79 := NB151_142.out; have hnc79 := NB142_151.out; have hnb80 := NB151_144.out; have hnc80 := NB144_151.out; obtain ⟨hcz81_0, hcz81_1, hcz81_2, hcz81_3, hfz81_0, hfz81_1, hfz81_2, hfz81_3⟩ := bc4 BK151.out; have hnb82 := NB144_139.out; have hnc82 := NB139_144.out; have hnb83 := NB144_140.out; have hnc83 := NB140_144.out; obtain ⟨hcz84_0, hcz84_1, hcz84_2, hfz84_0, hfz84_1, hfz84_2⟩ := bc3 BK144.out; have p152 : 0 ≤ (x8_3 : Int) := oa; have q152 : x8_3 < (((rd_T162 l1_0 x5_1).f2).length : Int) := oa; obtain ⟨ad152, A152_0, c152_0, e152, hx152_0, hl152_0, hi152_0⟩ := at_T165 HR143_2.out x8_3 p152 q152; obtain rfl : ad147 = ad152 := (by injection e152); have hn152_0 : ad147.block ≠ gb151 := (by first | exact bn hx152_0 GW151.out | exact bm hx152_0 GW151.out); have hn152_1 : ad147.block ≠ gb151 := (by first | exact bn hx152_0 GW151.out | exact bm hx152_0 GW151.out); have hn152_2 : ad147.block ≠ gb151 := (by first | exact bn hx152_0 GW151.out | exact bm hx152_0 GW151.out); have hn152_3 : ad147.block ≠ gb151 := (by first | exact bn hx152_0 GW151.out | exact bm hx152_0 GW151.out); replace hx152_0 := hbc HB.out hx152_0; have HR152_0 := Aside0.mk hi152_0; have HC152_0 := Aside0.mk hl152_0; clear hi152_0 hl152_0; replace hx152_0 := fx ⟨gb151, 0, none⟩ (.int .i64 ((rd_T167 ((rd_T165 ((rd_T162 l0_0 x5_1).f2) x8_3).f0) x9_4).f0)) hx152_0; replace hx152_0 := fx ⟨gb151, 1, none⟩ (.string ((rd_T167 ((rd_T165 ((rd_T162 l0_0 x5_1).f2) x8_3).f0) x9_4).f1)) hx152_0; replace hx152_0 := fx ⟨gb151, 2, none⟩ (.slice A150_2 ((rd_T167 ((rd_T165 ((rd_T162 l0_0 x5_1).f2) x8_3).f0) x9_4).f2).length c150_2) hx152_0; replace hx152_0 := fx ⟨gb151, 3, none⟩ (.string ((rd_T167 ((rd_T165 ((rd_T162 l0_0 x5_1).f2) x8_3).f0) x9_4).f3)) hx152_0; (try have hy152_0 := dn4 hx152_0); clear hn152_0; clear hn152_1; clear hn152_2; clear hn152_3; replace p152 := eq_true p152; replace q152 := eq_true q152; have p153 : 0 ≤ (x9_4 : Int) := oa; have q153 : x9_4 < (((rd_T165 ((rd_T162 l1_0 x5_1).f2) x8_3).f0).length : Int) := oa; obtain ⟨ad153, A153_2, c153_2, e153, hx153_0, hx153_1, hx153_2, hx153_3, hl153_2, hi153_2⟩ := at_T167 HR152_0.out x9_4 p153 q153; cases e153; have hn153_0 : ad153.block ≠ gb151 := (by first | exact bn hx153_0 GW151.out | exact bm hx153_0 GW151.out); have hn153_1 : ad153.block ≠ gb151 := (by first | exact bn hx153_0 GW151.out | exact bm hx153_0 GW151.out); have hn153_2 : ad153.block ≠ gb151 := (by first | exact bn hx153_0 GW151.out | exact bm hx153_0 GW151.out); have hn153_3 : ad153.block ≠ gb151 := (by first | exact bn hx153_0 GW151.out | exact bm hx153_0 GW151.out); replace hx153_0 := hbc HB.out hx153_0; replace hx153_1 := hbc HB.out hx153_1; replace hx153_2 := hbc HB.out hx153_2; replace hx153_3 := hbc HB.out hx153_3; have HR153_2 := Aside0.mk hi153_2; have HC153_2 := Aside0.mk hl153_2; clear hi153_2 hl153_2; replace hx153_0 := fx ⟨gb151, 0, none⟩ (.int .i64 ((rd_T167 ((rd_T165 ((rd_T162 l0_0 x5_1).f2) x8_3).f0) x9_4).f0)) hx153_0; replace hx153_1 := fx ⟨gb151, 0, none⟩ (.int .i64 ((rd_T167 ((rd_T165 ((rd_T162 l0_0 x5_1).f2) x8_3).f0) x9_4).f0)) hx153_1; replace hx153_2 := fx ⟨gb151, 0, none⟩ (.int .i64 ((rd_T167 ((rd_T165 ((rd_T162 l0_0 x5_1).f2) x8_3).f0) x9_4).f0)) hx153_2; replace hx153_3 := fx ⟨gb151, 0, none⟩ (.int .i64 ((rd_T167 ((rd_T165 ((rd_T162 l0_0 x5_1).f2) x8_3).f0) x9_4).f0)) hx153_3; replace hx153_0 := fx ⟨gb151, 1, none⟩ (.string ((rd_T167 ((rd_T165 ((rd_T162 l0_0 x5_1).f2) x8_3).f0) x9_4).f1)) hx153_0; replace hx153_1 := fx ⟨gb151, 1, none⟩ (.string ((rd_T167 ((rd_T165 ((rd_T162 l0_0 x5_1).f2) x8_3).f0) x9_4).f1)) hx153_1; replace hx153_2 := fx ⟨gb151, 1, none⟩ (.string ((rd_T167 ((rd_T165 ((rd_T162 l0_0 x5_1).f2) x8_3).f0) x9_4).f1)) hx153_2; replace hx153_3 := fx ⟨gb151, 1, none⟩ (.string ((rd_T167 ((rd_T165 ((rd_T162 l0_0 x5_1).f2) x8_3).f0) x9_4).f1)) hx153_3; replace hx153_0 := fx ⟨gb151, 2, none⟩ (.slice A150_2 ((rd_T167 ((rd_T165 ((rd_T162 l0_0 x5_1).f2) x8_3).f0) x9_4).f2).length c150_2) hx153_0; replace hx153_1 := fx ⟨gb151, 2, none⟩ (.slice A150_2 ((rd_T167 ((rd_T165 ((rd_T162 l0_0 x5_1).f2) x8_3).f0) x9_4).f2).length c150_2) hx153_1; replace hx153_2 := fx ⟨gb151, 2, none⟩ (.slice A150_2 ((rd_T167 ((rd_T165 ((rd_T162 l0_0 x5_1).f2) x8_3).f0) x9_4).f2).length c150_2) hx153_2; replace hx153_3 := fx ⟨gb151, 2, none⟩ (.slice A150_2 ((rd_T167 ((rd_T165 ((rd_T162 l0_0 x5_1).f2) x8_3).f0) x9_4).f2).length c150_2) hx153_3; replace hx153_0 := fx ⟨gb151, 3, none⟩ (.string ((rd_T167 ((rd_T165 ((rd_T162 l0_0 x5_1).f2) x8_3).f0) x9_4).f3)) hx153_0; replace hx153_1 := fx ⟨gb151, 3, none⟩ (.string ((rd_T167 ((rd_T165 ((rd_T162 l0_0 x5_1).f2) x8_3).f0) x9_4).f3)) hx153_1; replace hx153_2 := fx ⟨gb151, 3, none⟩ (.string ((rd_T167 ((rd_T165 ((rd_T162 l0_0 x5_1).f2) x8_3).f0) x9_4).f3)) hx153_2; replace hx153_3 := fx ⟨gb151, 3, none⟩ (.string ((rd_T167 ((rd_T165 ((rd_T162 l0_0 x5_1).f2) x8_3).f0) x9_4).f3)) hx153_3; (try have hy153_0 := dn4 hx153_0); (try have hy153_1 := dn4 hx153_1); (try have hy153_2 := dn4 hx153_2); (try have hy153_3 := dn4 hx153_3); clear hn153_0; clear hn153_1; clear hn153_2; clear hn153_3; replace p153 := eq_true p153; replace q153 := eq_true q153) | ((with_reducible refine gate_dst (N := 11) rfl ?_); (try (refine gate_guard (by rfl) ?_; dsimp only)); refine box_event ?hg (N := 11) ?hd (cs := #[.int .i64 0, .string (⟨#[]⟩ : ByteArray), .slice none 0 0, .string (⟨#[]⟩ : ByteArray)]) (t := 167) ?hr ?_; (case hd => rfl); (case hg => rfl); (case hr => first | (go_simp; done) | (go_simp; rfl)); intro gb154 hg w85 hbox hb; have n0_ := Aside0.mk (blk_below (g := gb139) (o := .cells #[.slice (some ad141) l0_0.length c0_0] 83 (0, 0)) bx hb); have n1_ := Aside0.mk (blk_below (g := gb140) (o := .cells #[.slice (some ad143) l1_0.length c1_0] 83 (0, 0)) bx hb); have n2_ := Aside0.mk (blk_below (g := gb142) (o := .cells #[.string ((rd_T162 l0_0 x5_1).f0), .slice A141_1 ((rd_T162 l0_0 x5_1).f1).length c141_1, .slice (some ad146) ((rd_T162 l0_0 x5_1).f2).length c141_2] 162 (0, 0)) bx hb); have n3_ := Aside0.mk (blk_below (g := gb144) (o := .cells #[.string ((rd_T162 l1_0 x5_1).f0), .slice A143_1 ((rd_T162 l1_0 x5_1).f1).length c143_1, .slice (some ad147) ((rd_T162 l1_0 x5_1).f2).length c143_2] 162 (0, 0)) bx hb); have n4_ := Aside0.mk (blk_below (g := gb151) (o := .cells #[.int .i64 ((rd_T167 ((rd_T165 ((rd_T162 l0_0 x5_1).f2) x8_3).f0) x9_4).f0), .string ((rd_T167 ((rd_T165 ((rd_T162 l0_0 x5_1).f2) x8_3).f0) x9_4).f1), .slice A150_2 ((rd_T167 ((rd_T165 ((rd_T162 l0_0 x5_1).f2) x8_3).f0) x9_4).f2).length c150_2, .string ((rd_T167 ((rd_T165 ((rd_T162 l0_0 x5_1).f2) x8_3).f0) x9_4).f3)] 167 (0, 0)) bx hb); have n5_ := Aside0.mk (below_step bw hb); have n6_ := Aside0.mk (hbox); have n7_ := Aside0.mk ((bz bw hg : w.heap.size ≤ gb154)); have n8_ := Aside0.mk ((bz bw hg : w.heap.size ≤ gb154)); have n9_ := Aside0.mk ((bl bx hg : gb139 ≠ gb154)); have n10_ := Aside0.mk ((bl' bx hg : gb154 ≠ gb139)); have n11_ := Aside0.mk ((bl bx hg : gb140 ≠ gb154)); have n12_ := Aside0.mk ((bl' bx hg : gb154 ≠ gb140)); have n13_ := Aside0.mk ((bl bx hg : gb142 ≠ gb154)); have n14_ := Aside0.mk ((bl' bx hg : gb154 ≠ gb142)); have n15_ := Aside0.mk ((bl bx hg : gb144 ≠ gb154)); have n16_ := Aside0.mk ((bl' bx hg : gb154 ≠ gb144)); have n17_ := Aside0.mk ((bl bx hg : gb151 ≠ gb154)); have n18_ := Aside0.mk ((bl' bx hg : gb154 ≠ gb151)); clear BK139; clear BK140; clear BK142; clear BK144; clear BK151; clear HB; have BK139 := n0_; have BK140 := n1_; have BK142 := n2_; have BK144 := n3_; have BK151 := n4_; have HB := n5_; have BK154 := n6_; have GW154 := n7_; have GE154 := n8_; have NB139_154 := n9_; have NB154_139 := n10_; have NB140_154 := n11_; have NB154_140 := n12_; have NB142_154 := n13_; have NB154_142 := n14_; have NB144_154 := n15_; have NB154_144 := n16_; have NB151_154 := n17_; have NB154_151 := n18_; clear n0_ n1_ n2_ n3_ n4_ n5_ n6_ n7_ n8_ n9_ n10_ n11_ n12_ n13_ n14_ n15_ n16_ n17_ n18_; clear hb hbox hg; have hnb86 := NB154_139.out; have hnc86 := NB139_154.out; have hnb87 := NB154_140.out; have hnc87 := NB140_154.out; have hnb88 := NB154_142.out; have hnc88 := NB142_154.out; have hnb89 := NB154_144.out; have hnc89 := NB144_154.out; have hnb90 := NB154_151.out; have hnc90 := NB151_154.out; obtain ⟨hcz91_0, hcz91_1, hcz91_2, hcz91_3, hfz91_0, hfz91_1, hfz91_2, hfz91_3⟩ := bc4 BK154.out; obtain ⟨hcz92_0, hcz92_1, hcz92_2, hcz92_3, hfz92_0, hfz92_1, hfz92_2, hfz92_3⟩ := bc4 BK151.out) | (go_at_call 99; (with_reducible refine (spec_l11SameExprs.calls k4 _ _ ((rd_T167 ((rd_T165 ((rd_T162 l0_0 x5_1).f2) x8_3).f0) x9_4).f2) _ _ ((rd_T167 ((rd_T165 ((rd_T162 l1_0 x5_1).f2) x8_3).f0) x9_4).f2) true _ ?side1 ?side2 ?side3 ?side4 A70.out).mono ?_); (case side1 => exact Kd.C_below HR150_2.out bw); (case side2 => exact HC150_2.out); (case side3 => exact Kd.C_below HR153_2.out bw); (case side4 => exact HC153_2.out); rintro e w93 ⟨rfl, hb⟩; have n0_ := Aside0.mk (blk_below (g := gb139) (o := .cells #[.slice (some ad141) l0_0.length c0_0] 83 (0, 0)) bx hb); have n1_ := Aside0.mk (blk_below (g := gb140) (o := .cells #[.slice (some ad143) l1_0.length c1_0] 83 (0, 0)) bx hb); have n2_ := Aside0.mk (blk_below (g := gb142) (o := .cells #[.string ((rd_T162 l0_0 x5_1).f0), .slice A141_1 ((rd_T162 l0_0 x5_1).f1).length c141_1, .slice (some ad146) ((rd_T162 l0_0 x5_1).f2).length c141_2] 162 (0, 0)) bx hb); have n3_ := Aside0.mk (blk_below (g := gb144) (o := .cells #[.string ((rd_T162 l1_0 x5_1).f0), .slice A143_1 ((rd_T162 l1_0 x5_1).f1).length c143_1, .slice (some ad147) ((rd_T162 l1_0 x5_1).f2).length c143_2] 162 (0, 0)) bx hb); have n4_ := Aside0.mk (blk_below (g := gb151) (o := .cells #[.int .i64 ((rd_T167 ((rd_T165 ((rd_T162 l0_0 x5_1).f2) x8_3).f0) x9_4).f0), .string ((rd_T167 ((rd_T165 ((rd_T162 l0_0 x5_1).f2) x8_3).f0) x9_4).f1), .slice A150_2 ((rd_T167 ((rd_T165 ((rd_T162 l0_0 x5_1).f2) x8_3).f0) x9_4).f2).length c150_2, .string ((rd_T167 ((rd_T165 ((rd_T162 l0_0 x5_1).f2) x8_3).f0) x9_4).f3)] 167 (0, 0)) bx hb); have n5_ := Aside0.mk (blk_below (g := gb154) (o := .cells #[.int .i64 ((rd_T167 ((rd_T165 ((rd_T162 l1_0 x5_1).f2) x8_3).f0) x9_4).f0), .string ((rd_T167 ((rd_T165 ((rd_T162 l1_0 x5_1).f2) x8_3).f0) x9_4).f1), .slice A153_2 ((rd_T167 ((rd_T165 ((rd_T162 l1_0 x5_1).f2) x8_3).f0) x9_4).f2).length c153_2, .string ((rd_T167 ((rd_T165 ((rd_T162 l1_0 x5_1).f2) x8_3).f0) x9_4).f3)] 167 (0, 0)) bx hb); have n6_ := Aside0.mk (below_step bw hb); clear BK139; clear BK140; clear BK142; clear BK144; clear BK151; clear BK154; clear HB; have BK139 := n0_; have BK140 := n1_; have BK142 := n2_; have BK144 := n3_; have BK151 := n4_; have BK154 := n5_; have HB := n6_; clear n0_ n1_ n2_ n3_ n4_ n5_ n6_; (try clear hb); (try clear hb2); (try clear hk); (try clear hi)))
                            repeat (go_quiet (fail); try go_wp2_with (fail))
                            go_roundg k4
                            case measure => have := HK1.out; have := HJ11.out; have := HK3.out; have := HK4.out; omega
                            case rel => exact ⟨(wrap64 (x9_4 + 1)), (by first | rfl | (simp; done) | (simp [*]; done) | (simp [isE0, isE1]; done)), H', ⟨by have := HK1.out; have := HJ11.out; have := HK3.out; have := HK4.out; omega⟩, ⟨by (with_reducible repeat (first | refine blk_drewN ?_ _ | refine blk_drew ?_ | refine blk_alloc ?_ _)); exact BK139.out⟩, ⟨by (with_reducible repeat (first | refine blk_drewN ?_ _ | refine blk_drew ?_ | refine blk_alloc ?_ _)); exact BK140.out⟩, ⟨by (with_reducible repeat (first | refine blk_drewN ?_ _ | refine blk_drew ?_ | refine blk_alloc ?_ _)); exact BK142.out⟩, ⟨by (with_reducible repeat (first | refine blk_drewN ?_ _ | refine blk_drew ?_ | refine blk_alloc ?_ _)); exact BK144.out⟩, ⟨by repeat (first | (with_reducible first | exact HB.out | apply below_alloc | apply pw_below_drewN | apply below_drew1 | refine below_set ?_ GE139.out | refine below_set ?_ GE140.out | refine below_set ?_ GE142.out | refine below_set ?_ GE144.out | refine below_set ?_ GE151.out | refine below_set ?_ GE154.out) | exact HB.out)⟩⟩
                           ·replace c71 := Bool.eq_false_iff.mpr c71
                            subst c71
                            have H1 : (some false) = some r := by rw [if_neg (show ¬ (false = true) by decide)] at H; exact H
                            clear H
                            have H := H1
                            clear H1
                            obtain rfl := Option.some.inj H
                            have hnb94 := NB142_139.out
                            have hnc94 := NB139_142.out
                            have hnb95 := NB142_140.out
                            have hnc95 := NB140_142.out
                            have hnb96 := NB142_144.out
                            have hnc96 := NB144_142.out
                            obtain ⟨hcz97_0, hcz97_1, hcz97_2, hfz97_0, hfz97_1, hfz97_2⟩ := bc3 BK142.out
                            have p148 : 0 ≤ (x8_3 : Int) := oa
                            have q148 : x8_3 < (((rd_T162 l0_0 x5_1).f2).length : Int) := oa
                            obtain ⟨ad148, A148_0, c148_0, e148, hx148_0, hl148_0, hi148_0⟩ := at_T165 HR141_2.out x8_3 p148 q148
                            obtain rfl : ad146 = ad148 := (by injection e148)
                            replace hx148_0 := hbc HB.out hx148_0
                            have HR148_0 := Aside0.mk hi148_0
                            have HC148_0 := Aside0.mk hl148_0
                            clear hi148_0 hl148_0
                            replace p148 := eq_true p148
                            replace q148 := eq_true q148
                            have p149 : 0 ≤ (x8_3 : Int) := oa
                            have q149 : x8_3 < (((rd_T162 l0_0 x5_1).f2).length : Int) := oa
                            obtain ⟨ad149, A149_0, c149_0, e149, hx149_0, hl149_0, hi149_0⟩ := at_T165 HR141_2.out x8_3 p149 q149
                            obtain rfl : ad146 = ad149 := (by injection e149)
                            replace hx149_0 := hbc HB.out hx149_0
                            have HR149_0 := Aside0.mk hi149_0
                            have HC149_0 := Aside0.mk hl149_0
                            clear hi149_0 hl149_0
                            replace p149 := eq_true p149
                            replace q149 := eq_true q149
                            have ea_ := Option.some.inj (hx148_0.symm.trans hx149_0)
                            injection ea_ with ea_ en_ ec_
                            subst ea_
                            subst ec_
                            clear en_
                            have p150 : 0 ≤ (x9_4 : Int) := oa
                            have q150 : x9_4 < (((rd_T165 ((rd_T162 l0_0 x5_1).f2) x8_3).f0).length : Int) := oa
                            obtain ⟨ad150, A150_2, c150_2, e150, hx150_0, hx150_1, hx150_2, hx150_3, hl150_2, hi150_2⟩ := at_T167 HR149_0.out x9_4 p150 q150
                            cases e150
                            replace hx150_0 := hbc HB.out hx150_0
                            replace hx150_1 := hbc HB.out hx150_1
                            replace hx150_2 := hbc HB.out hx150_2
                            replace hx150_3 := hbc HB.out hx150_3
                            have HR150_2 := Aside0.mk hi150_2
                            have HC150_2 := Aside0.mk hl150_2
                            clear hi150_2 hl150_2
                            replace p150 := eq_true p150
                            replace q150 := eq_true q150
                            go_wp2_with (first | ((with_reducible refine gate_dst (N := 10) rfl ?_); (try (refine gate_guard (by rfl) ?_; dsimp only)); refine box_event ?hg (N := 10) ?hd (cs := #[.int .i64 0, .string (⟨#[]⟩ : ByteArray), .slice none 0 0, .string (⟨#[]⟩ : ByteArray)]) (t := 167) ?hr ?_; (case hd => rfl); (case hg => rfl); (case hr => first | (go_simp; done) | (go_simp; rfl)); intro gb151 hg w98 hbox hb; have n0_ := Aside0.mk (blk_below (g := gb139) (o := .cells #[.slice (some ad141) l0_0.length c0_0] 83 (0, 0)) bx hb); have n1_ := Aside0.mk (blk_below (g := gb140) (o := .cells #[.slice (some ad143) l1_0.length c1_0] 83 (0, 0)) bx hb); have n2_ := Aside0.mk (blk_below (g := gb142) (o := .cells #[.string ((rd_T162 l0_0 x5_1).f0), .slice A141_1 ((rd_T162 l0_0 x5_1).f1).length c141_1, .slice (some ad146) ((rd_T162 l0_0 x5_1).f2).length c141_2] 162 (0, 0)) bx hb); have n3_ := Aside0.mk (blk_below (g := gb144) (o := .cells #[.string ((rd_T162 l1_0 x5_1).f0), .slice A143_1 ((rd_T162 l1_0 x5_1).f1).length c143_1, .slice (some ad147) ((rd_T162 l1_0 x5_1).f2).length c143_2] 162 (0, 0)) bx hb); have n4_ := Aside0.mk (below_step bw hb); have n5_ := Aside0.mk (hbox); have n6_ := Aside0.mk ((bz bw hg : w.heap.size ≤ gb151)); have n7_ := Aside0.mk ((bz bw hg : w.heap.size ≤ gb151)); have n8_ := Aside0.mk ((bl bx hg : gb139 ≠ gb151)); have n9_ := Aside0.mk ((bl' bx hg : gb151 ≠ gb139)); have n10_ := Aside0.mk ((bl bx hg : gb140 ≠ gb151)); have n11_ := Aside0.mk ((bl' bx hg : gb151 ≠ gb140)); have n12_ := Aside0.mk ((bl bx hg : gb142 ≠ gb151)); have n13_ := Aside0.mk ((bl' bx hg : gb151 ≠ gb142)); have n14_ := Aside0.mk ((bl bx hg : gb144 ≠ gb151)); have n15_ := Aside0.mk ((bl' bx hg : gb151 ≠ gb144)); clear BK139; clear BK140; clear BK142; clear BK144; clear HB; have BK139 := n0_; have BK140 := n1_; have BK142 := n2_; have BK144 := n3_; have HB := n4_; have BK151 := n5_; have GW151 := n6_; have GE151 := n7_; have NB139_151 := n8_; have NB151_139 := n9_; have NB140_151 := n10_; have NB151_140 := n11_; have NB142_151 := n12_; have NB151_142 := n13_; have NB144_151 := n14_; have NB151_144 := n15_; clear n0_ n1_ n2_ n3_ n4_ n5_ n6_ n7_ n8_ n9_ n10_ n11_ n12_ n13_ n14_ n15_; clear hb hbox hg; have hnb99 := NB151_139.out; have hnc99 := NB139_151.out; have hnb100 := NB151_140.out; have hnc100 := NB140_151.out; have hnb101 := NB151_142.out; have hnc101 := NB142_151.out; have hnb102 := NB151_144.out; have hnc102 := NB144_151.out; obtain ⟨hcz103_0, hcz103_1, hcz103_2, hcz103_3, hfz103_0, hfz103_1, hfz103_2, hfz103_3⟩ := bc4 BK151.out; have hnb104 := NB144_139.out; have hnc104 := NB139_144.out; have hnb105 := NB144_140.out; have hnc105 := NB140_144.out; obtain ⟨hcz106_0, hcz106_1, hcz106_2, hfz106_0, hfz106_1, hfz106_2⟩ := bc3 BK144.out; have p152 : 0 ≤ (x8_3 : Int) := oa; have q152 : x8_3 < (((rd_T162 l1_0 x5_1).f2).length : Int) := oa; obtain ⟨ad152, A152_0, c152_0, e152, hx152_0, hl152_0, hi152_0⟩ := at_T165 HR143_2.out x8_3 p152 q152; obtain rfl : ad147 = ad152 := (by injection e152); have hn152_0 : ad147.block ≠ gb151 := (by first | exact bn hx152_0 GW151.out | exact bm hx152_0 GW151.out); have hn152_1 : ad147.block ≠ gb151 := (by first | exact bn hx152_0 GW151.out | exact bm hx152_0 GW151.out); have hn152_2 : ad147.block ≠ gb151 := (by first | exact bn hx152_0 GW151.out | exact bm hx152_0 GW151.out); have hn152_3 : ad147.block ≠ gb151 := (by first | exact bn hx152_0 GW151.out | exact bm hx152_0 GW151.out); replace hx152_0 := hbc HB.out hx152_0; have HR152_0 := Aside0.mk hi152_0; have HC152_0 := Aside0.mk hl152_0; clear hi152_0 hl152_0; replace hx152_0 := fx ⟨gb151, 0, none⟩ (.int .i64 ((rd_T167 ((rd_T165 ((rd_T162 l0_0 x5_1).f2) x8_3).f0) x9_4).f0)) hx152_0; replace hx152_0 := fx ⟨gb151, 1, none⟩ (.string ((rd_T167 ((rd_T165 ((rd_T162 l0_0 x5_1).f2) x8_3).f0) x9_4).f1)) hx152_0; replace hx152_0 := fx ⟨gb151, 2, none⟩ (.slice A150_2 ((rd_T167 ((rd_T165 ((rd_T162 l0_0 x5_1).f2) x8_3).f0) x9_4).f2).length c150_2) hx152_0; replace hx152_0 := fx ⟨gb151, 3, none⟩ (.string ((rd_T167 ((rd_T165 ((rd_T162 l0_0 x5_1).f2) x8_3).f0) x9_4).f3)) hx152_0; (try have hy152_0 := dn4 hx152_0); clear hn152_0; clear hn152_1; clear hn152_2; clear hn152_3; replace p152 := eq_true p152; replace q152 := eq_true q152; have p153 : 0 ≤ (x9_4 : Int) := oa; have q153 : x9_4 < (((rd_T165 ((rd_T162 l1_0 x5_1).f2) x8_3).f0).length : Int) := oa; obtain ⟨ad153, A153_2, c153_2, e153, hx153_0, hx153_1, hx153_2, hx153_3, hl153_2, hi153_2⟩ := at_T167 HR152_0.out x9_4 p153 q153; cases e153; have hn153_0 : ad153.block ≠ gb151 := (by first | exact bn hx153_0 GW151.out | exact bm hx153_0 GW151.out); have hn153_1 : ad153.block ≠ gb151 := (by first | exact bn hx153_0 GW151.out | exact bm hx153_0 GW151.out); have hn153_2 : ad153.block ≠ gb151 := (by first | exact bn hx153_0 GW151.out | exact bm hx153_0 GW151.out); have hn153_3 : ad153.block ≠ gb151 := (by first | exact bn hx153_0 GW151.out | exact bm hx153_0 GW151.out); replace hx153_0 := hbc HB.out hx153_0; replace hx153_1 := hbc HB.out hx153_1; replace hx153_2 := hbc HB.out hx153_2; replace hx153_3 := hbc HB.out hx153_3; have HR153_2 := Aside0.mk hi153_2; have HC153_2 := Aside0.mk hl153_2; clear hi153_2 hl153_2; replace hx153_0 := fx ⟨gb151, 0, none⟩ (.int .i64 ((rd_T167 ((rd_T165 ((rd_T162 l0_0 x5_1).f2) x8_3).f0) x9_4).f0)) hx153_0; replace hx153_1 := fx ⟨gb151, 0, none⟩ (.int .i64 ((rd_T167 ((rd_T165 ((rd_T162 l0_0 x5_1).f2) x8_3).f0) x9_4).f0)) hx153_1; replace hx153_2 := fx ⟨gb151, 0, none⟩ (.int .i64 ((rd_T167 ((rd_T165 ((rd_T162 l0_0 x5_1).f2) x8_3).f0) x9_4).f0)) hx153_2; replace hx153_3 := fx ⟨gb151, 0, none⟩ (.int .i64 ((rd_T167 ((rd_T165 ((rd_T162 l0_0 x5_1).f2) x8_3).f0) x9_4).f0)) hx153_3; replace hx153_0 := fx ⟨gb151, 1, none⟩ (.string ((rd_T167 ((rd_T165 ((rd_T162 l0_0 x5_1).f2) x8_3).f0) x9_4).f1)) hx153_0; replace hx153_1 := fx ⟨gb151, 1, none⟩ (.string ((rd_T167 ((rd_T165 ((rd_T162 l0_0 x5_1).f2) x8_3).f0) x9_4).f1)) hx153_1; replace hx153_2 := fx ⟨gb151, 1, none⟩ (.string ((rd_T167 ((rd_T165 ((rd_T162 l0_0 x5_1).f2) x8_3).f0) x9_4).f1)) hx153_2; replace hx153_3 := fx ⟨gb151, 1, none⟩ (.string ((rd_T167 ((rd_T165 ((rd_T162 l0_0 x5_1).f2) x8_3).f0) x9_4).f1)) hx153_3; replace hx153_0 := fx ⟨gb151, 2, none⟩ (.slice A150_2 ((rd_T167 ((rd_T165 ((rd_T162 l0_0 x5_1).f2) x8_3).f0) x9_4).f2).length c150_2) hx153_0; replace hx153_1 := fx ⟨gb151, 2, none⟩ (.slice A150_2 ((rd_T167 ((rd_T165 ((rd_T162 l0_0 x5_1).f2) x8_3).f0) x9_4).f2).length c150_2) hx153_1; replace hx153_2 := fx ⟨gb151, 2, none⟩ (.slice A150_2 ((rd_T167 ((rd_T165 ((rd_T162 l0_0 x5_1).f2) x8_3).f0) x9_4).f2).length c150_2) hx153_2; replace hx153_3 := fx ⟨gb151, 2, none⟩ (.slice A150_2 ((rd_T167 ((rd_T165 ((rd_T162 l0_0 x5_1).f2) x8_3).f0) x9_4).f2).length c150_2) hx153_3; replace hx153_0 := fx ⟨gb151, 3, none⟩ (.string ((rd_T167 ((rd_T165 ((rd_T162 l0_0 x5_1).f2) x8_3).f0) x9_4).f3)) hx153_0; replace hx153_1 := fx ⟨gb151, 3, none⟩ (.string ((rd_T167 ((rd_T165 ((rd_T162 l0_0 x5_1).f2) x8_3).f0) x9_4).f3)) hx153_1; replace hx153_2 := fx ⟨gb151, 3, none⟩ (.string ((rd_T167 ((rd_T165 ((rd_T162 l0_0 x5_1).f2) x8_3).f0) x9_4).f3)) hx153_2; replace hx153_3 := fx ⟨gb151, 3, none⟩ (.string ((rd_T167 ((rd_T165 ((rd_T162 l0_0 x5_1).f2) x8_3).f0) x9_4).f3)) hx153_3; (try have hy153_0 := dn4 hx153_0); (try have hy153_1 := dn4 hx153_1); (try have hy153_2 := dn4 hx153_2); (try have hy153_3 := dn4 hx153_3); clear hn153_0; clear hn153_1; clear hn153_2; clear hn153_3; replace p153 := eq_true p153; replace q153 := eq_true q153) | ((with_reducible refine gate_dst (N := 11) rfl ?_); (try (refine gate_guard (by rfl) ?_; dsimp only)); refine box_event ?hg (N := 11) ?hd (cs := #[.int .i64 0, .string (⟨#[]⟩ : ByteArray), .slice none 0 0, .string (⟨#[]⟩ : ByteArray)]) (t := 167) ?hr ?_; (case hd => rfl); (case hg => rfl); (case hr => first | (go_simp; done) | (go_simp; rfl)); intro gb154 hg w107 hbox hb; have n0_ := Aside0.mk (blk_below (g := gb139) (o := .cells #[.slice (some ad141) l0_0.length c0_0] 83 (0, 0)) bx hb); have n1_ := Aside0.mk (blk_below (g := gb140) (o := .cells #[.slice (some ad143) l1_0.length c1_0] 83 (0, 0)) bx hb); have n2_ := Aside0.mk (blk_below (g := gb142) (o := .cells #[.string ((rd_T162 l0_0 x5_1).f0), .slice A141_1 ((rd_T162 l0_0 x5_1).f1).length c141_1, .slice (some ad146) ((rd_T162 l0_0 x5_1).f2).length c141_2] 162 (0, 0)) bx hb); have n3_ := Aside0.mk (blk_below (g := gb144) (o := .cells #[.string ((rd_T162 l1_0 x5_1).f0), .slice A143_1 ((rd_T162 l1_0 x5_1).f1).length c143_1, .slice (some ad147) ((rd_T162 l1_0 x5_1).f2).length c143_2] 162 (0, 0)) bx hb); have n4_ := Aside0.mk (blk_below (g := gb151) (o := .cells #[.int .i64 ((rd_T167 ((rd_T165 ((rd_T162 l0_0 x5_1).f2) x8_3).f0) x9_4).f0), .string ((rd_T167 ((rd_T165 ((rd_T162 l0_0 x5_1).f2) x8_3).f0) x9_4).f1), .slice A150_2 ((rd_T167 ((rd_T165 ((rd_T162 l0_0 x5_1).f2) x8_3).f0) x9_4).f2).length c150_2, .string ((rd_T167 ((rd_T165 ((rd_T162 l0_0 x5_1).f2) x8_3).f0) x9_4).f3)] 167 (0, 0)) bx hb); have n5_ := Aside0.mk (below_step bw hb); have n6_ := Aside0.mk (hbox); have n7_ := Aside0.mk ((bz bw hg : w.heap.size ≤ gb154)); have n8_ := Aside0.mk ((bz bw hg : w.heap.size ≤ gb154)); have n9_ := Aside0.mk ((bl bx hg : gb139 ≠ gb154)); have n10_ := Aside0.mk ((bl' bx hg : gb154 ≠ gb139)); have n11_ := Aside0.mk ((bl bx hg : gb140 ≠ gb154)); have n12_ := Aside0.mk ((bl' bx hg : gb154 ≠ gb140)); have n13_ := Aside0.mk ((bl bx hg : gb142 ≠ gb154)); have n14_ := Aside0.mk ((bl' bx hg : gb154 ≠ gb142)); have n15_ := Aside0.mk ((bl bx hg : gb144 ≠ gb154)); have n16_ := Aside0.mk ((bl' bx hg : gb154 ≠ gb144)); have n17_ := Aside0.mk ((bl bx hg : gb151 ≠ gb154)); have n18_ := Aside0.mk ((bl' bx hg : gb154 ≠ gb151)); clear BK139; clear BK140; clear BK142; clear BK144; clear BK151; clear HB; have BK139 := n0_; have BK140 := n1_; have BK142 := n2_; have BK144 := n3_; have BK151 := n4_; have HB := n5_; have BK154 := n6_; have GW154 := n7_; have GE154 := n8_; have NB139_154 := n9_; have NB154_139 := n10_; have NB140_154 := n11_; have NB154_140 := n12_; have NB142_154 := n13_; have NB154_142 := n14_; have NB144_154 := n15_; have NB154_144 := n16_; have NB151_154 := n17_; have NB154_151 := n18_; clear n0_ n1_ n2_ n3_ n4_ n5_ n6_ n7_ n8_ n9_ n10_ n11_ n12_ n13_ n14_ n15_ n16_ n17_ n18_; clear hb hbox hg; have hnb108 := NB154_139.out; have hnc108 := NB139_154.out; have hnb109 := NB154_140.out; have hnc109 := NB140_154.out; have hnb110 := NB154_142.out; have hnc110 := NB142_154.out; have hnb111 := NB154_144.out; have hnc111 := NB144_154.out; have hnb112 := NB154_151.out; have hnc112 := NB151_154.out; obtain ⟨hcz113_0, hcz113_1, hcz113_2, hcz113_3, hfz113_0, hfz113_1, hfz113_2, hfz113_3⟩ := bc4 BK154.out; obtain ⟨hcz114_0, hcz114_1, hcz114_2, hcz114_3, hfz114_0, hfz114_1, hfz114_2, hfz114_3⟩ := bc4 BK151.out) | (go_at_call 99; (with_reducible refine (spec_l11SameExprs.calls k4 _ _ ((rd_T167 ((rd_T165 ((rd_T162 l0_0 x5_1).f2) x8_3).f0) x9_4).f2) _ _ ((rd_T167 ((rd_T165 ((rd_T162 l1_0 x5_1).f2) x8_3).f0) x9_4).f2) false _ ?side1 ?side2 ?side3 ?side4 A70.out).mono ?_); (case side1 => exact Kd.C_below HR150_2.out bw); (case side2 => exact HC150_2.out); (case side3 => exact Kd.C_below HR153_2.out bw); (case side4 => exact HC153_2.out); rintro e w115 ⟨rfl, hb⟩; have n0_ := Aside0.mk (blk_below (g := gb139) (o := .cells #[.slice (some ad141) l0_0.length c0_0] 83 (0, 0)) bx hb); have n1_ := Aside0.mk (blk_below (g := gb140) (o := .cells #[.slice (some ad143) l1_0.length c1_0] 83 (0, 0)) bx hb); have n2_ := Aside0.mk (blk_below (g := gb142) (o := .cells #[.string ((rd_T162 l0_0 x5_1).f0), .slice A141_1 ((rd_T162 l0_0 x5_1).f1).length c141_1, .slice (some ad146) ((rd_T162 l0_0 x5_1).f2).length c141_2] 162 (0, 0)) bx hb); have n3_ := Aside0.mk (blk_below (g := gb144) (o := .cells #[.string ((rd_T162 l1_0 x5_1).f0), .slice A143_1 ((rd_T162 l1_0 x5_1).f1).length c143_1, .slice (some ad147) ((rd_T162 l1_0 x5_1).f2).length c143_2] 162 (0, 0)) bx hb); have n4_ := Aside0.mk (blk_below (g := gb151) (o := .cells #[.int .i64 ((rd_T167 ((rd_T165 ((rd_T162 l0_0 x5_1).f2) x8_3).f0) x9_4).f0), .string ((rd_T167 ((rd_T165 ((rd_T162 l0_0 x5_1).f2) x8_3).f0) x9_4).f1), .slice A150_2 ((rd_T167 ((rd_T165 ((rd_T162 l0_0 x5_1).f2) x8_3).f0) x9_4).f2).length c150_2, .string ((rd_T167 ((rd_T165 ((rd_T162 l0_0 x5_1).f2) x8_3).f0) x9_4).f3)] 167 (0, 0)) bx hb); have n5_ := Aside0.mk (blk_below (g := gb154) (o := .cells #[.int .i64 ((rd_T167 ((rd_T165 ((rd_T162 l1_0 x5_1).f2) x8_3).f0) x9_4).f0), .string ((rd_T167 ((rd_T165 ((rd_T162 l1_0 x5_1).f2) x8_3).f0) x9_4).f1), .slice A153_2 ((rd_T167 ((rd_T165 ((rd_T162 l1_0 x5_1).f2) x8_3).f0) x9_4).f2).length c153_2, .string ((rd_T167 ((rd_T165 ((rd_T162 l1_0 x5_1).f2) x8_3).f0) x9_4).f3)] 167 (0, 0)) bx hb); have n6_ := Aside0.mk (below_step bw hb); clear BK139; clear BK140; clear BK142; clear BK144; clear BK151; clear BK154; clear HB; have BK139 := n0_; have BK140 := n1_; have BK142 := n2_; have BK144 := n3_; have BK151 := n4_; have BK154 := n5_; have HB := n6_; clear n0_ n1_ n2_ n3_ n4_ n5_ n6_; (try clear hb); (try clear hb2); (try clear hk); (try clear hi)))
                            repeat (go_quiet (fail); try go_wp2_with (fail))
                            go_ret
                            exact ⟨by first | rfl | (simp [errW_none, errW_some] <;> rfl) | (simp [*, errW_none, errW_some] <;> rfl), by repeat (first | (with_reducible first | exact HB.out | apply below_alloc | apply pw_below_drewN | apply below_drew1 | refine below_set ?_ GE139.out | refine below_set ?_ GE140.out | refine below_set ?_ GE142.out | refine below_set ?_ GE144.out | refine below_set ?_ GE151.out | refine below_set ?_ GE154.out) | exact HB.out)⟩
                          ·rw [if_neg c69] at H
                           have c69b0 : (((rd_T167 ((rd_T165 ((rd_T162 l0_0 x5_1).f2) x8_3).f0) x9_4).f3).toList == ((rd_T167 ((rd_T165 ((rd_T162 l1_0 x5_1).f2) x8_3).f0) x9_4).f3).toList) = false := beq_eq_false_iff_ne.mpr c69
                           have c69b1 : (((rd_T167 ((rd_T165 ((rd_T162 l0_0 x5_1).f2) x8_3).f0) x9_4).f3).toList != ((rd_T167 ((rd_T165 ((rd_T162 l1_0 x5_1).f2) x8_3).f0) x9_4).f3).toList) = true := bne_iff_ne.mpr c69
                           obtain rfl := Option.some.inj H
                           have hnb116 := NB142_139.out
                           have hnc116 := NB139_142.out
                           have hnb117 := NB142_140.out
                           have hnc117 := NB140_142.out
                           have hnb118 := NB142_144.out
                           have hnc118 := NB144_142.out
                           obtain ⟨hcz119_0, hcz119_1, hcz119_2, hfz119_0, hfz119_1, hfz119_2⟩ := bc3 BK142.out
                           have p148 : 0 ≤ (x8_3 : Int) := oa
                           have q148 : x8_3 < (((rd_T162 l0_0 x5_1).f2).length : Int) := oa
                           obtain ⟨ad148, A148_0, c148_0, e148, hx148_0, hl148_0, hi148_0⟩ := at_T165 HR141_2.out x8_3 p148 q148
                           obtain rfl : ad146 = ad148 := (by injection e148)
                           replace hx148_0 := hbc HB.out hx148_0
                           have HR148_0 := Aside0.mk hi148_0
                           have HC148_0 := Aside0.mk hl148_0
                           clear hi148_0 hl148_0
                           replace p148 := eq_true p148
                           replace q148 := eq_true q148
                           have p149 : 0 ≤ (x8_3 : Int) := oa
                           have q149 : x8_3 < (((rd_T162 l0_0 x5_1).f2).length : Int) := oa
                           obtain ⟨ad149, A149_0, c149_0, e149, hx149_0, hl149_0, hi149_0⟩ := at_T165 HR141_2.out x8_3 p149 q149
                           obtain rfl : ad146 = ad149 := (by injection e149)
                           replace hx149_0 := hbc HB.out hx149_0
                           have HR149_0 := Aside0.mk hi149_0
                           have HC149_0 := Aside0.mk hl149_0
                           clear hi149_0 hl149_0
                           replace p149 := eq_true p149
                           replace q149 := eq_true q149
                           have ea_ := Option.some.inj (hx148_0.symm.trans hx149_0)
                           injection ea_ with ea_ en_ ec_
                           subst ea_
                           subst ec_
                           clear en_
                           have p150 : 0 ≤ (x9_4 : Int) := oa
                           have q150 : x9_4 < (((rd_T165 ((rd_T162 l0_0 x5_1).f2) x8_3).f0).length : Int) := oa
                           obtain ⟨ad150, A150_2, c150_2, e150, hx150_0, hx150_1, hx150_2, hx150_3, hl150_2, hi150_2⟩ := at_T167 HR149_0.out x9_4 p150 q150
                           cases e150
                           replace hx150_0 := hbc HB.out hx150_0
                           replace hx150_1 := hbc HB.out hx150_1
                           replace hx150_2 := hbc HB.out hx150_2
                           replace hx150_3 := hbc HB.out hx150_3
                           have HR150_2 := Aside0.mk hi150_2
                           have HC150_2 := Aside0.mk hl150_2
                           clear hi150_2 hl150_2
                           replace p150 := eq_true p150
                           replace q150 := eq_true q150
                           go_wp2_with (first | ((with_reducible refine gate_dst (N := 10) rfl ?_); (try (refine gate_guard (by rfl) ?_; dsimp only)); refine box_event ?hg (N := 10) ?hd (cs := #[.int .i64 0, .string (⟨#[]⟩ : ByteArray), .slice none 0 0, .string (⟨#[]⟩ : ByteArray)]) (t := 167) ?hr ?_; (case hd => rfl); (case hg => rfl); (case hr => first | (go_simp; done) | (go_simp; rfl)); intro gb151 hg w120 hbox hb; have n0_ := Aside0.mk (blk_below (g := gb139) (o := .cells #[.slice (some ad141) l0_0.length c0_0] 83 (0, 0)) bx hb); have n1_ := Aside0.mk (blk_below (g := gb140) (o := .cells #[.slice (some ad143) l1_0.length c1_0] 83 (0, 0)) bx hb); have n2_ := Aside0.mk (blk_below (g := gb142) (o := .cells #[.string ((rd_T162 l0_0 x5_1).f0), .slice A141_1 ((rd_T162 l0_0 x5_1).f1).length c141_1, .slice (some ad146) ((rd_T162 l0_0 x5_1).f2).length c141_2] 162 (0, 0)) bx hb); have n3_ := Aside0.mk (blk_below (g := gb144) (o := .cells #[.string ((rd_T162 l1_0 x5_1).f0), .slice A143_1 ((rd_T162 l1_0 x5_1).f1).length c143_1, .slice (some ad147) ((rd_T162 l1_0 x5_1).f2).length c143_2] 162 (0, 0)) bx hb); have n4_ := Aside0.mk (below_step bw hb); have n5_ := Aside0.mk (hbox); have n6_ := Aside0.mk ((bz bw hg : w.heap.size ≤ gb151)); have n7_ := Aside0.mk ((bz bw hg : w.heap.size ≤ gb151)); have n8_ := Aside0.mk ((bl bx hg : gb139 ≠ gb151)); have n9_ := Aside0.mk ((bl' bx hg : gb151 ≠ gb139)); have n10_ := Aside0.mk ((bl bx hg : gb140 ≠ gb151)); have n11_ := Aside0.mk ((bl' bx hg : gb151 ≠ gb140)); have n12_ := Aside0.mk ((bl bx hg : gb142 ≠ gb151)); have n13_ := Aside0.mk ((bl' bx hg : gb151 ≠ gb142)); have n14_ := Aside0.mk ((bl bx hg : gb144 ≠ gb151)); have n15_ := Aside0.mk ((bl' bx hg : gb151 ≠ gb144)); clear BK139; clear BK140; clear BK142; clear BK144; clear HB; have BK139 := n0_; have BK140 := n1_; have BK142 := n2_; have BK144 := n3_; have HB := n4_; have BK151 := n5_; have GW151 := n6_; have GE151 := n7_; have NB139_151 := n8_; have NB151_139 := n9_; have NB140_151 := n10_; have NB151_140 := n11_; have NB142_151 := n12_; have NB151_142 := n13_; have NB144_151 := n14_; have NB151_144 := n15_; clear n0_ n1_ n2_ n3_ n4_ n5_ n6_ n7_ n8_ n9_ n10_ n11_ n12_ n13_ n14_ n15_; clear hb hbox hg; have hnb121 := NB151_139.out; have hnc121 := NB139_151.out; have hnb122 := NB151_140.out; have hnc122 := NB140_151.out; have hnb123 := NB151_142.out; have hnc123 := NB142_151.out; have hnb124 := NB151_144.out; have hnc124 := NB144_151.out; obtain ⟨hcz125_0, hcz125_1, hcz125_2, hcz125_3, hfz125_0, hfz125_1, hfz125_2, hfz125_3⟩ := bc4 BK151.out; have hnb126 := NB144_139.out; have hnc126 := NB139_144.out; have hnb127 := NB144_140.out; have hnc127 := NB140_144.out; obtain ⟨hcz128_0, hcz128_1, hcz128_2, hfz128_0, hfz128_1, hfz128_2⟩ := bc3 BK144.out; have p152 : 0 ≤ (x8_3 : Int) := oa; have q152 : x8_3 < (((rd_T162 l1_0 x5_1).f2).length : Int) := oa; obtain ⟨ad152, A152_0, c152_0, e152, hx152_0, hl152_0, hi152_0⟩ := at_T165 HR143_2.out x8_3 p152 q152; obtain rfl : ad147 = ad152 := (by injection e152); have hn152_0 : ad147.block ≠ gb151 := (by first | exact bn hx152_0 GW151.out | exact bm hx152_0 GW151.out); have hn152_1 : ad147.block ≠ gb151 := (by first | exact bn hx152_0 GW151.out | exact bm hx152_0 GW151.out); have hn152_2 : ad147.block ≠ gb151 := (by first | exact bn hx152_0 GW151.out | exact bm hx152_0 GW151.out); have hn152_3 : ad147.block ≠ gb151 := (by first | exact bn hx152_0 GW151.out | exact bm hx152_0 GW151.out); replace hx152_0 := hbc HB.out hx152_0; have HR152_0 := Aside0.mk hi152_0; have HC152_0 := Aside0.mk hl152_0; clear hi152_0 hl152_0; replace hx152_0 := fx ⟨gb151, 0, none⟩ (.int .i64 ((rd_T167 ((rd_T165 ((rd_T162 l0_0 x5_1).f2) x8_3).f0) x9_4).f0)) hx152_0; replace hx152_0 := fx ⟨gb151, 1, none⟩ (.string ((rd_T167 ((rd_T165 ((rd_T162 l0_0 x5_1).f2) x8_3).f0) x9_4).f1)) hx152_0; replace hx152_0 := fx ⟨gb151, 2, none⟩ (.slice A150_2 ((rd_T167 ((rd_T165 ((rd_T162 l0_0 x5_1).f2) x8_3).f0) x9_4).f2).length c150_2) hx152_0; replace hx152_0 := fx ⟨gb151, 3, none⟩ (.string ((rd_T167 ((rd_T165 ((rd_T162 l0_0 x5_1).f2) x8_3).f0) x9_4).f3)) hx152_0; (try have hy152_0 := dn4 hx152_0); clear hn152_0; clear hn152_1; clear hn152_2; clear hn152_3; replace p152 := eq_true p152; replace q152 := eq_true q152; have p153 : 0 ≤ (x9_4 : Int) := oa; have q153 : x9_4 < (((rd_T165 ((rd_T162 l1_0 x5_1).f2) x8_3).f0).length : Int) := oa; obtain ⟨ad153, A153_2, c153_2, e153, hx153_0, hx153_1, hx153_2, hx153_3, hl153_2, hi153_2⟩ := at_T167 HR152_0.out x9_4 p153 q153; cases e153; have hn153_0 : ad153.block ≠ gb151 := (by first | exact bn hx153_0 GW151.out | exact bm hx153_0 GW151.out); have hn153_1 : ad153.block ≠ gb151 := (by first | exact bn hx153_0 GW151.out | exact bm hx153_0 GW151.out); have hn153_2 : ad153.block ≠ gb151 := (by first | exact bn hx153_0 GW151.out | exact bm hx153_0 GW151.out); have hn153_3 : ad153.block ≠ gb151 := (by first | exact bn hx153_0 GW151.out | exact bm hx153_0 GW151.out); replace hx153_0 := hbc HB.out hx153_0; replace hx153_1 := hbc HB.out hx153_1; replace hx153_2 := hbc HB.out hx153_2; replace hx153_3 := hbc HB.out hx153_3; have HR153_2 := Aside0.mk hi153_2; have HC153_2 := Aside0.mk hl153_2; clear hi153_2 hl153_2; replace hx153_0 := fx ⟨gb151, 0, none⟩ (.int .i64 ((rd_T167 ((rd_T165 ((rd_T162 l0_0 x5_1).f2) x8_3).f0) x9_4).f0)) hx153_0; replace hx153_1 := fx ⟨gb151, 0, none⟩ (.int .i64 ((rd_T167 ((rd_T165 ((rd_T162 l0_0 x5_1).f2) x8_3).f0) x9_4).f0)) hx153_1; replace hx153_2 := fx ⟨gb151, 0, none⟩ (.int .i64 ((rd_T167 ((rd_T165 ((rd_T162 l0_0 x5_1).f2) x8_3).f0) x9_4).f0)) hx153_2; replace hx153_3 := fx ⟨gb151, 0, none⟩ (.int .i64 ((rd_T167 ((rd_T165 ((rd_T162 l0_0 x5_1).f2) x8_3).f0) x9_4).f0)) hx153_3; replace hx153_0 := fx ⟨gb151, 1, none⟩ (.string ((rd_T167 ((rd_T165 ((rd_T162 l0_0 x5_1).f2) x8_3).f0) x9_4).f1)) hx153_0; replace hx153_1 := fx ⟨gb151, 1, none⟩ (.string ((rd_T167 ((rd_T165 ((rd_T162 l0_0 x5_1).f2) x8_3).f0) x9_4).f1)) hx153_1; replace hx153_2 := fx ⟨gb151, 1, none⟩ (.string ((rd_T167 ((rd_T165 ((rd_T162 l0_0 x5_1).f2) x8_3).f0) x9_4).f1)) hx153_2; replace hx153_3 := fx ⟨gb151, 1, none⟩ (.string ((rd_T167 ((rd_T165 ((rd_T162 l0_0 x5_1).f2) x8_3).f0) x9_4).f1)) hx153_3; replace hx153_0 := fx ⟨gb151, 2, none⟩ (.slice A150_2 ((rd_T167 ((rd_T165 ((rd_T162 l0_0 x5_1).f2) x8_3).f0) x9_4).f2).length c150_2) hx153_0; replace hx153_1 := fx ⟨gb151, 2, none⟩ (.slice A150_2 ((rd_T167 ((rd_T165 ((rd_T162 l0_0 x5_1).f2) x8_3).f0) x9_4).f2).length c150_2) hx153_1; replace hx153_2 := fx ⟨gb151, 2, none⟩ (.slice A150_2 ((rd_T167 ((rd_T165 ((rd_T162 l0_0 x5_1).f2) x8_3).f0) x9_4).f2).length c150_2) hx153_2; replace hx153_3 := fx ⟨gb151, 2, none⟩ (.slice A150_2 ((rd_T167 ((rd_T165 ((rd_T162 l0_0 x5_1).f2) x8_3).f0) x9_4).f2).length c150_2) hx153_3; replace hx153_0 := fx ⟨gb151, 3, none⟩ (.string ((rd_T167 ((rd_T165 ((rd_T162 l0_0 x5_1).f2) x8_3).f0) x9_4).f3)) hx153_0; replace hx153_1 := fx ⟨gb151, 3, none⟩ (.string ((rd_T167 ((rd_T165 ((rd_T162 l0_0 x5_1).f2) x8_3).f0) x9_4).f3)) hx153_1; replace hx153_2 := fx ⟨gb151, 3, none⟩ (.string ((rd_T167 ((rd_T165 ((rd_T162 l0_0 x5_1).f2) x8_3).f0) x9_4).f3)) hx153_2; replace hx153_3 := fx ⟨gb151, 3, none⟩ (.string ((rd_T167 ((rd_T165 ((rd_T162 l0_0 x5_1).f2) x8_3).f0) x9_4).f3)) hx153_3; (try have hy153_0 := dn4 hx153_0); (try have hy153_1 := dn4 hx153_1); (try have hy153_2 := dn4 hx153_2); (try have hy153_3 := dn4 hx153_3); clear hn153_0; clear hn153_1; clear hn153_2; clear hn153_3; replace p153 := eq_true p153; replace q153 := eq_true q153) | ((with_reducible refine gate_dst (N := 11) rfl ?_); (try (refine gate_guard (by rfl) ?_; dsimp only)); refine box_event ?hg (N := 11) ?hd (cs := #[.int .i64 0, .string (⟨#[]⟩ : ByteArray), .slice none 0 0, .string (⟨#[]⟩ : ByteArray)]) (t := 167) ?hr ?_; (case hd => rfl); (case hg => rfl); (case hr => first | (go_simp; done) | (go_simp; rfl)); intro gb154 hg w129 hbox hb; have n0_ := Aside0.mk (blk_below (g := gb139) (o := .cells #[.slice (some ad141) l0_0.length c0_0] 83 (0, 0)) bx hb); have n1_ := Aside0.mk (blk_below (g := gb140) (o := .cells #[.slice (some ad143) l1_0.length c1_0] 83 (0, 0)) bx hb); have n2_ := Aside0.mk (blk_below (g := gb142) (o := .cells #[.string ((rd_T162 l0_0 x5_1).f0), .slice A141_1 ((rd_T162 l0_0 x5_1).f1).length c141_1, .slice (some ad146) ((rd_T162 l0_0 x5_1).f2).length c141_2] 162 (0, 0)) bx hb); have n3_ := Aside0.mk (blk_below (g := gb144) (o := .cells #[.string ((rd_T162 l1_0 x5_1).f0), .slice A143_1 ((rd_T162 l1_0 x5_1).f1).length c143_1, .slice (some ad147) ((rd_T162 l1_0 x5_1).f2).length c143_2] 162 (0, 0)) bx hb); have n4_ := Aside0.mk (blk_below (g := gb151) (o := .cells #[.int .i64 ((rd_T167 ((rd_T165 ((rd_T162 l0_0 x5_1).f2) x8_3).f0) x9_4).f0), .string ((rd_T167 ((rd_T165 ((rd_T162 l0_0 x5_1).f2) x8_3).f0) x9_4).f1), .slice A150_2 ((rd_T167 ((rd_T165 ((rd_T162 l0_0 x5_1).f2) x8_3).f0) x9_4).f2).length c150_2, .string ((rd_T167 ((rd_T165 ((rd_T162 l0_0 x5_1).f2) x8_3).f0) x9_4).f3)] 167 (0, 0)) bx hb); have n5_ := Aside0.mk (below_step bw hb); have n6_ := Aside0.mk (hbox); have n7_ := Aside0.mk ((bz bw hg : w.heap.size ≤ gb154)); have n8_ := Aside0.mk ((bz bw hg : w.heap.size ≤ gb154)); have n9_ := Aside0.mk ((bl bx hg : gb139 ≠ gb154)); have n10_ := Aside0.mk ((bl' bx hg : gb154 ≠ gb139)); have n11_ := Aside0.mk ((bl bx hg : gb140 ≠ gb154)); have n12_ := Aside0.mk ((bl' bx hg : gb154 ≠ gb140)); have n13_ := Aside0.mk ((bl bx hg : gb142 ≠ gb154)); have n14_ := Aside0.mk ((bl' bx hg : gb154 ≠ gb142)); have n15_ := Aside0.mk ((bl bx hg : gb144 ≠ gb154)); have n16_ := Aside0.mk ((bl' bx hg : gb154 ≠ gb144)); have n17_ := Aside0.mk ((bl bx hg : gb151 ≠ gb154)); have n18_ := Aside0.mk ((bl' bx hg : gb154 ≠ gb151)); clear BK139; clear BK140; clear BK142; clear BK144; clear BK151; clear HB; have BK139 := n0_; have BK140 := n1_; have BK142 := n2_; have BK144 := n3_; have BK151 := n4_; have HB := n5_; have BK154 := n6_; have GW154 := n7_; have GE154 := n8_; have NB139_154 := n9_; have NB154_139 := n10_; have NB140_154 := n11_; have NB154_140 := n12_; have NB142_154 := n13_; have NB154_142 := n14_; have NB144_154 := n15_; have NB154_144 := n16_; have NB151_154 := n17_; have NB154_151 := n18_; clear n0_ n1_ n2_ n3_ n4_ n5_ n6_ n7_ n8_ n9_ n10_ n11_ n12_ n13_ n14_ n15_ n16_ n17_ n18_; clear hb hbox hg; have hnb130 := NB154_139.out; have hnc130 := NB139_154.out; have hnb131 := NB154_140.out; have hnc131 := NB140_154.out; have hnb132 := NB154_142.out; have hnc132 := NB142_154.out; have hnb133 := NB154_144.out; have hnc133 := NB144_154.out; have hnb134 := NB154_151.out; have hnc134 := NB151_154.out; obtain ⟨hcz135_0, hcz135_1, hcz135_2, hcz135_3, hfz135_0, hfz135_1, hfz135_2, hfz135_3⟩ := bc4 BK154.out; obtain ⟨hcz136_0, hcz136_1, hcz136_2, hcz136_3, hfz136_0, hfz136_1, hfz136_2, hfz136_3⟩ := bc4 BK151.out))
                           repeat (go_quiet (fail); try go_wp2_with (fail))
                           go_ret
                           exact ⟨by first | rfl | (simp [errW_none, errW_some] <;> rfl) | (simp [*, errW_none, errW_some] <;> rfl), by repeat (first | (with_reducible first | exact HB.out | apply below_alloc | apply pw_below_drewN | apply below_drew1 | refine below_set ?_ GE139.out | refine below_set ?_ GE140.out | refine below_set ?_ GE142.out | refine below_set ?_ GE144.out | refine below_set ?_ GE151.out | refine below_set ?_ GE154.out) | exact HB.out)⟩
                         ·rw [if_neg c68] at H
                          have c68b0 : (((rd_T167 ((rd_T165 ((rd_T162 l0_0 x5_1).f2) x8_3).f0) x9_4).f1).toList == ((rd_T167 ((rd_T165 ((rd_T162 l1_0 x5_1).f2) x8_3).f0) x9_4).f1).toList) = false := beq_eq_false_iff_ne.mpr c68
                          have c68b1 : (((rd_T167 ((rd_T165 ((rd_T162 l0_0 x5_1).f2) x8_3).f0) x9_4).f1).toList != ((rd_T167 ((rd_T165 ((rd_T162 l1_0 x5_1).f2) x8_3).f0) x9_4).f1).toList) = true := bne_iff_ne.mpr c68
                          obtain rfl := Option.some.inj H
                          have hnb137 := NB142_139.out
                          have hnc137 := NB139_142.out
                          have hnb138 := NB142_140.out
                          have hnc138 := NB140_142.out
                          have hnb139 := NB142_144.out
                          have hnc139 := NB144_142.out
                          obtain ⟨hcz140_0, hcz140_1, hcz140_2, hfz140_0, hfz140_1, hfz140_2⟩ := bc3 BK142.out
                          have p148 : 0 ≤ (x8_3 : Int) := oa
                          have q148 : x8_3 < (((rd_T162 l0_0 x5_1).f2).length : Int) := oa
                          obtain ⟨ad148, A148_0, c148_0, e148, hx148_0, hl148_0, hi148_0⟩ := at_T165 HR141_2.out x8_3 p148 q148
                          obtain rfl : ad146 = ad148 := (by injection e148)
                          replace hx148_0 := hbc HB.out hx148_0
                          have HR148_0 := Aside0.mk hi148_0
                          have HC148_0 := Aside0.mk hl148_0
                          clear hi148_0 hl148_0
                          replace p148 := eq_true p148
                          replace q148 := eq_true q148
                          have p149 : 0 ≤ (x8_3 : Int) := oa
                          have q149 : x8_3 < (((rd_T162 l0_0 x5_1).f2).length : Int) := oa
                          obtain ⟨ad149, A149_0, c149_0, e149, hx149_0, hl149_0, hi149_0⟩ := at_T165 HR141_2.out x8_3 p149 q149
                          obtain rfl : ad146 = ad149 := (by injection e149)
                          replace hx149_0 := hbc HB.out hx149_0
                          have HR149_0 := Aside0.mk hi149_0
                          have HC149_0 := Aside0.mk hl149_0
                          clear hi149_0 hl149_0
                          replace p149 := eq_true p149
                          replace q149 := eq_true q149
                          have ea_ := Option.some.inj (hx148_0.symm.trans hx149_0)
                          injection ea_ with ea_ en_ ec_
                          subst ea_
                          subst ec_
                          clear en_
                          have p150 : 0 ≤ (x9_4 : Int) := oa
                          have q150 : x9_4 < (((rd_T165 ((rd_T162 l0_0 x5_1).f2) x8_3).f0).length : Int) := oa
                          obtain ⟨ad150, A150_2, c150_2, e150, hx150_0, hx150_1, hx150_2, hx150_3, hl150_2, hi150_2⟩ := at_T167 HR149_0.out x9_4 p150 q150
                          cases e150
                          replace hx150_0 := hbc HB.out hx150_0
                          replace hx150_1 := hbc HB.out hx150_1
                          replace hx150_2 := hbc HB.out hx150_2
                          replace hx150_3 := hbc HB.out hx150_3
                          have HR150_2 := Aside0.mk hi150_2
                          have HC150_2 := Aside0.mk hl150_2
                          clear hi150_2 hl150_2
                          replace p150 := eq_true p150
                          replace q150 := eq_true q150
                          go_wp2_with (first | ((with_reducible refine gate_dst (N := 10) rfl ?_); (try (refine gate_guard (by rfl) ?_; dsimp only)); refine box_event ?hg (N := 10) ?hd (cs := #[.int .i64 0, .string (⟨#[]⟩ : ByteArray), .slice none 0 0, .string (⟨#[]⟩ : ByteArray)]) (t := 167) ?hr ?_; (case hd => rfl); (case hg => rfl); (case hr => first | (go_simp; done) | (go_simp; rfl)); intro gb151 hg w141 hbox hb; have n0_ := Aside0.mk (blk_below (g := gb139) (o := .cells #[.slice (some ad141) l0_0.length c0_0] 83 (0, 0)) bx hb); have n1_ := Aside0.mk (blk_below (g := gb140) (o := .cells #[.slice (some ad143) l1_0.length c1_0] 83 (0, 0)) bx hb); have n2_ := Aside0.mk (blk_below (g := gb142) (o := .cells #[.string ((rd_T162 l0_0 x5_1).f0), .slice A141_1 ((rd_T162 l0_0 x5_1).f1).length c141_1, .slice (some ad146) ((rd_T162 l0_0 x5_1).f2).length c141_2] 162 (0, 0)) bx hb); have n3_ := Aside0.mk (blk_below (g := gb144) (o := .cells #[.string ((rd_T162 l1_0 x5_1).f0), .slice A143_1 ((rd_T162 l1_0 x5_1).f1).length c143_1, .slice (some ad147) ((rd_T162 l1_0 x5_1).f2).length c143_2] 162 (0, 0)) bx hb); have n4_ := Aside0.mk (below_step bw hb); have n5_ := Aside0.mk (hbox); have n6_ := Aside0.mk ((bz bw hg : w.heap.size ≤ gb151)); have n7_ := Aside0.mk ((bz bw hg : w.heap.size ≤ gb151)); have n8_ := Aside0.mk ((bl bx hg : gb139 ≠ gb151)); have n9_ := Aside0.mk ((bl' bx hg : gb151 ≠ gb139)); have n10_ := Aside0.mk ((bl bx hg : gb140 ≠ gb151)); have n11_ := Aside0.mk ((bl' bx hg : gb151 ≠ gb140)); have n12_ := Aside0.mk ((bl bx hg : gb142 ≠ gb151)); have n13_ := Aside0.mk ((bl' bx hg : gb151 ≠ gb142)); have n14_ := Aside0.mk ((bl bx hg : gb144 ≠ gb151)); have n15_ := Aside0.mk ((bl' bx hg : gb151 ≠ gb144)); clear BK139; clear BK140; clear BK142; clear BK144; clear HB; have BK139 := n0_; have BK140 := n1_; have BK142 := n2_; have BK144 := n3_; have HB := n4_; have BK151 := n5_; have GW151 := n6_; have GE151 := n7_; have NB139_151 := n8_; have NB151_139 := n9_; have NB140_151 := n10_; have NB151_140 := n11_; have NB142_151 := n12_; have NB151_142 := n13_; have NB144_151 := n14_; have NB151_144 := n15_; clear n0_ n1_ n2_ n3_ n4_ n5_ n6_ n7_ n8_ n9_ n10_ n11_ n12_ n13_ n14_ n15_; clear hb hbox hg; have hnb142 := NB151_139.out; have hnc142 := NB139_151.out; have hnb143 := NB151_140.out; have hnc143 := NB140_151.out; have hnb144 := NB151_142.out; have hnc144 := NB142_151.out; have hnb145 := NB151_144.out; have hnc145 := NB144_151.out; obtain ⟨hcz146_0, hcz146_1, hcz146_2, hcz146_3, hfz146_0, hfz146_1, hfz146_2, hfz146_3⟩ := bc4 BK151.out; have hnb147 := NB144_139.out; have hnc147 := NB139_144.out; have hnb148 := NB144_140.out; have hnc148 := NB140_144.out; obtain ⟨hcz149_0, hcz149_1, hcz149_2, hfz149_0, hfz149_1, hfz149_2⟩ := bc3 BK144.out; have p152 : 0 ≤ (x8_3 : Int) := oa; have q152 : x8_3 < (((rd_T162 l1_0 x5_1).f2).length : Int) := oa; obtain ⟨ad152, A152_0, c152_0, e152, hx152_0, hl152_0, hi152_0⟩ := at_T165 HR143_2.out x8_3 p152 q152; obtain rfl : ad147 = ad152 := (by injection e152); have hn152_0 : ad147.block ≠ gb151 := (by first | exact bn hx152_0 GW151.out | exact bm hx152_0 GW151.out); have hn152_1 : ad147.block ≠ gb151 := (by first | exact bn hx152_0 GW151.out | exact bm hx152_0 GW151.out); have hn152_2 : ad147.block ≠ gb151 := (by first | exact bn hx152_0 GW151.out | exact bm hx152_0 GW151.out); have hn152_3 : ad147.block ≠ gb151 := (by first | exact bn hx152_0 GW151.out | exact bm hx152_0 GW151.out); replace hx152_0 := hbc HB.out hx152_0; have HR152_0 := Aside0.mk hi152_0; have HC152_0 := Aside0.mk hl152_0; clear hi152_0 hl152_0; replace hx152_0 := fx ⟨gb151, 0, none⟩ (.int .i64 ((rd_T167 ((rd_T165 ((rd_T162 l0_0 x5_1).f2) x8_3).f0) x9_4).f0)) hx152_0; replace hx152_0 := fx ⟨gb151, 1, none⟩ (.string ((rd_T167 ((rd_T165 ((rd_T162 l0_0 x5_1).f2) x8_3).f0) x9_4).f1)) hx152_0; replace hx152_0 := fx ⟨gb151, 2, none⟩ (.slice A150_2 ((rd_T167 ((rd_T165 ((rd_T162 l0_0 x5_1).f2) x8_3).f0) x9_4).f2).length c150_2) hx152_0; replace hx152_0 := fx ⟨gb151, 3, none⟩ (.string ((rd_T167 ((rd_T165 ((rd_T162 l0_0 x5_1).f2) x8_3).f0) x9_4).f3)) hx152_0; (try have hy152_0 := dn4 hx152_0); clear hn152_0; clear hn152_1; clear hn152_2; clear hn152_3; replace p152 := eq_true p152; replace q152 := eq_true q152; have p153 : 0 ≤ (x9_4 : Int) := oa; have q153 : x9_4 < (((rd_T165 ((rd_T162 l1_0 x5_1).f2) x8_3).f0).length : Int) := oa; obtain ⟨ad153, A153_2, c153_2, e153, hx153_0, hx153_1, hx153_2, hx153_3, hl153_2, hi153_2⟩ := at_T167 HR152_0.out x9_4 p153 q153; cases e153; have hn153_0 : ad153.block ≠ gb151 := (by first | exact bn hx153_0 GW151.out | exact bm hx153_0 GW151.out); have hn153_1 : ad153.block ≠ gb151 := (by first | exact bn hx153_0 GW151.out | exact bm hx153_0 GW151.out); have hn153_2 : ad153.block ≠ gb151 := (by first | exact bn hx153_0 GW151.out | exact bm hx153_0 GW151.out); have hn153_3 : ad153.block ≠ gb151 := (by first | exact bn hx153_0 GW151.out | exact bm hx153_0 GW151.out); replace hx153_0 := hbc HB.out hx153_0; replace hx153_1 := hbc HB.out hx153_1; replace hx153_2 := hbc HB.out hx153_2; replace hx153_3 := hbc HB.out hx153_3; have HR153_2 := Aside0.mk hi153_2; have HC153_2 := Aside0.mk hl153_2; clear hi153_2 hl153_2; replace hx153_0 := fx ⟨gb151, 0, none⟩ (.int .i64 ((rd_T167 ((rd_T165 ((rd_T162 l0_0 x5_1).f2) x8_3).f0) x9_4).f0)) hx153_0; replace hx153_1 := fx ⟨gb151, 0, none⟩ (.int .i64 ((rd_T167 ((rd_T165 ((rd_T162 l0_0 x5_1).f2) x8_3).f0) x9_4).f0)) hx153_1; replace hx153_2 := fx ⟨gb151, 0, none⟩ (.int .i64 ((rd_T167 ((rd_T165 ((rd_T162 l0_0 x5_1).f2) x8_3).f0) x9_4).f0)) hx153_2; replace hx153_3 := fx ⟨gb151, 0, none⟩ (.int .i64 ((rd_T167 ((rd_T165 ((rd_T162 l0_0 x5_1).f2) x8_3).f0) x9_4).f0)) hx153_3; replace hx153_0 := fx ⟨gb151, 1, none⟩ (.string ((rd_T167 ((rd_T165 ((rd_T162 l0_0 x5_1).f2) x8_3).f0) x9_4).f1)) hx153_0; replace hx153_1 := fx ⟨gb151, 1, none⟩ (.string ((rd_T167 ((rd_T165 ((rd_T162 l0_0 x5_1).f2) x8_3).f0) x9_4).f1)) hx153_1; replace hx153_2 := fx ⟨gb151, 1, none⟩ (.string ((rd_T167 ((rd_T165 ((rd_T162 l0_0 x5_1).f2) x8_3).f0) x9_4).f1)) hx153_2; replace hx153_3 := fx ⟨gb151, 1, none⟩ (.string ((rd_T167 ((rd_T165 ((rd_T162 l0_0 x5_1).f2) x8_3).f0) x9_4).f1)) hx153_3; replace hx153_0 := fx ⟨gb151, 2, none⟩ (.slice A150_2 ((rd_T167 ((rd_T165 ((rd_T162 l0_0 x5_1).f2) x8_3).f0) x9_4).f2).length c150_2) hx153_0; replace hx153_1 := fx ⟨gb151, 2, none⟩ (.slice A150_2 ((rd_T167 ((rd_T165 ((rd_T162 l0_0 x5_1).f2) x8_3).f0) x9_4).f2).length c150_2) hx153_1; replace hx153_2 := fx ⟨gb151, 2, none⟩ (.slice A150_2 ((rd_T167 ((rd_T165 ((rd_T162 l0_0 x5_1).f2) x8_3).f0) x9_4).f2).length c150_2) hx153_2; replace hx153_3 := fx ⟨gb151, 2, none⟩ (.slice A150_2 ((rd_T167 ((rd_T165 ((rd_T162 l0_0 x5_1).f2) x8_3).f0) x9_4).f2).length c150_2) hx153_3; replace hx153_0 := fx ⟨gb151, 3, none⟩ (.string ((rd_T167 ((rd_T165 ((rd_T162 l0_0 x5_1).f2) x8_3).f0) x9_4).f3)) hx153_0; replace hx153_1 := fx ⟨gb151, 3, none⟩ (.string ((rd_T167 ((rd_T165 ((rd_T162 l0_0 x5_1).f2) x8_3).f0) x9_4).f3)) hx153_1; replace hx153_2 := fx ⟨gb151, 3, none⟩ (.string ((rd_T167 ((rd_T165 ((rd_T162 l0_0 x5_1).f2) x8_3).f0) x9_4).f3)) hx153_2; replace hx153_3 := fx ⟨gb151, 3, none⟩ (.string ((rd_T167 ((rd_T165 ((rd_T162 l0_0 x5_1).f2) x8_3).f0) x9_4).f3)) hx153_3; (try have hy153_0 := dn4 hx153_0); (try have hy153_1 := dn4 hx153_1); (try have hy153_2 := dn4 hx153_2); (try have hy153_3 := dn4 hx153_3); clear hn153_0; clear hn153_1; clear hn153_2; clear hn153_3; replace p153 := eq_true p153; replace q153 := eq_true q153) | ((with_reducible refine gate_dst (N := 11) rfl ?_); (try (refine gate_guard (by rfl) ?_; dsimp only)); refine box_event ?hg (N := 11) ?hd (cs := #[.int .i64 0, .string (⟨#[]⟩ : ByteArray), .slice none 0 0, .string (⟨#[]⟩ : ByteArray)]) (t := 167) ?hr ?_; (case hd => rfl); (case hg => rfl); (case hr => first | (go_simp; done) | (go_simp; rfl)); intro gb154 hg w150 hbox hb; have n0_ := Aside0.mk (blk_below (g := gb139) (o := .cells #[.slice (some ad141) l0_0.length c0_0] 83 (0, 0)) bx hb); have n1_ := Aside0.mk (blk_below (g := gb140) (o := .cells #[.slice (some ad143) l1_0.length c1_0] 83 (0, 0)) bx hb); have n2_ := Aside0.mk (blk_below (g := gb142) (o := .cells #[.string ((rd_T162 l0_0 x5_1).f0), .slice A141_1 ((rd_T162 l0_0 x5_1).f1).length c141_1, .slice (some ad146) ((rd_T162 l0_0 x5_1).f2).length c141_2] 162 (0, 0)) bx hb); have n3_ := Aside0.mk (blk_below (g := gb144) (o := .cells #[.string ((rd_T162 l1_0 x5_1).f0), .slice A143_1 ((rd_T162 l1_0 x5_1).f1).length c143_1, .slice (some ad147) ((rd_T162 l1_0 x5_1).f2).length c143_2] 162 (0, 0)) bx hb); have n4_ := Aside0.mk (blk_below (g := gb151) (o := .cells #[.int .i64 ((rd_T167 ((rd_T165 ((rd_T162 l0_0 x5_1).f2) x8_3).f0) x9_4).f0), .string ((rd_T167 ((rd_T165 ((rd_T162 l0_0 x5_1).f2) x8_3).f0) x9_4).f1), .slice A150_2 ((rd_T167 ((rd_T165 ((rd_T162 l0_0 x5_1).f2) x8_3).f0) x9_4).f2).length c150_2, .string ((rd_T167 ((rd_T165 ((rd_T162 l0_0 x5_1).f2) x8_3).f0) x9_4).f3)] 167 (0, 0)) bx hb); have n5_ := Aside0.mk (below_step bw hb); have n6_ := Aside0.mk (hbox); have n7_ := Aside0.mk ((bz bw hg : w.heap.size ≤ gb154)); have n8_ := Aside0.mk ((bz bw hg : w.heap.size ≤ gb154)); have n9_ := Aside0.mk ((bl bx hg : gb139 ≠ gb154)); have n10_ := Aside0.mk ((bl' bx hg : gb154 ≠ gb139)); have n11_ := Aside0.mk ((bl bx hg : gb140 ≠ gb154)); have n12_ := Aside0.mk ((bl' bx hg : gb154 ≠ gb140)); have n13_ := Aside0.mk ((bl bx hg : gb142 ≠ gb154)); have n14_ := Aside0.mk ((bl' bx hg : gb154 ≠ gb142)); have n15_ := Aside0.mk ((bl bx hg : gb144 ≠ gb154)); have n16_ := Aside0.mk ((bl' bx hg : gb154 ≠ gb144)); have n17_ := Aside0.mk ((bl bx hg : gb151 ≠ gb154)); have n18_ := Aside0.mk ((bl' bx hg : gb154 ≠ gb151)); clear BK139; clear BK140; clear BK142; clear BK144; clear BK151; clear HB; have BK139 := n0_; have BK140 := n1_; have BK142 := n2_; have BK144 := n3_; have BK151 := n4_; have HB := n5_; have BK154 := n6_; have GW154 := n7_; have GE154 := n8_; have NB139_154 := n9_; have NB154_139 := n10_; have NB140_154 := n11_; have NB154_140 := n12_; have NB142_154 := n13_; have NB154_142 := n14_; have NB144_154 := n15_; have NB154_144 := n16_; have NB151_154 := n17_; have NB154_151 := n18_; clear n0_ n1_ n2_ n3_ n4_ n5_ n6_ n7_ n8_ n9_ n10_ n11_ n12_ n13_ n14_ n15_ n16_ n17_ n18_; clear hb hbox hg; have hnb151 := NB154_139.out; have hnc151 := NB139_154.out; have hnb152 := NB154_140.out; have hnc152 := NB140_154.out; have hnb153 := NB154_142.out; have hnc153 := NB142_154.out; have hnb154 := NB154_144.out; have hnc154 := NB144_154.out; have hnb155 := NB154_151.out; have hnc155 := NB151_154.out; obtain ⟨hcz156_0, hcz156_1, hcz156_2, hcz156_3, hfz156_0, hfz156_1, hfz156_2, hfz156_3⟩ := bc4 BK154.out; obtain ⟨hcz157_0, hcz157_1, hcz157_2, hcz157_3, hfz157_0, hfz157_1, hfz157_2, hfz157_3⟩ := bc4 BK151.out))
                          repeat (go_quiet (fail); try go_wp2_with (fail))
                          go_ret
                          exact ⟨by first | rfl | (simp [errW_none, errW_some] <;> rfl) | (simp [*, errW_none, errW_some] <;> rfl), by repeat (first | (with_reducible first | exact HB.out | apply below_alloc | apply pw_below_drewN | apply below_drew1 | refine below_set ?_ GE139.out | refine below_set ?_ GE140.out | refine below_set ?_ GE142.out | refine below_set ?_ GE144.out | refine below_set ?_ GE151.out | refine below_set ?_ GE154.out) | exact HB.out)⟩
                        ·rw [if_neg c67] at H
                         have c67b0 : (((rd_T167 ((rd_T165 ((rd_T162 l0_0 x5_1).f2) x8_3).f0) x9_4).f0) == ((rd_T167 ((rd_T165 ((rd_T162 l1_0 x5_1).f2) x8_3).f0) x9_4).f0)) = false := beq_eq_false_iff_ne.mpr c67
                         have c67b1 : (((rd_T167 ((rd_T165 ((rd_T162 l0_0 x5_1).f2) x8_3).f0) x9_4).f0) != ((rd_T167 ((rd_T165 ((rd_T162 l1_0 x5_1).f2) x8_3).f0) x9_4).f0)) = true := bne_iff_ne.mpr c67
                         obtain rfl := Option.some.inj H
                         have hnb158 := NB142_139.out
                         have hnc158 := NB139_142.out
                         have hnb159 := NB142_140.out
                         have hnc159 := NB140_142.out
                         have hnb160 := NB142_144.out
                         have hnc160 := NB144_142.out
                         obtain ⟨hcz161_0, hcz161_1, hcz161_2, hfz161_0, hfz161_1, hfz161_2⟩ := bc3 BK142.out
                         have p148 : 0 ≤ (x8_3 : Int) := oa
                         have q148 : x8_3 < (((rd_T162 l0_0 x5_1).f2).length : Int) := oa
                         obtain ⟨ad148, A148_0, c148_0, e148, hx148_0, hl148_0, hi148_0⟩ := at_T165 HR141_2.out x8_3 p148 q148
                         obtain rfl : ad146 = ad148 := (by injection e148)
                         replace hx148_0 := hbc HB.out hx148_0
                         have HR148_0 := Aside0.mk hi148_0
                         have HC148_0 := Aside0.mk hl148_0
                         clear hi148_0 hl148_0
                         replace p148 := eq_true p148
                         replace q148 := eq_true q148
                         have p149 : 0 ≤ (x8_3 : Int) := oa
                         have q149 : x8_3 < (((rd_T162 l0_0 x5_1).f2).length : Int) := oa
                         obtain ⟨ad149, A149_0, c149_0, e149, hx149_0, hl149_0, hi149_0⟩ := at_T165 HR141_2.out x8_3 p149 q149
                         obtain rfl : ad146 = ad149 := (by injection e149)
                         replace hx149_0 := hbc HB.out hx149_0
                         have HR149_0 := Aside0.mk hi149_0
                         have HC149_0 := Aside0.mk hl149_0
                         clear hi149_0 hl149_0
                         replace p149 := eq_true p149
                         replace q149 := eq_true q149
                         have ea_ := Option.some.inj (hx148_0.symm.trans hx149_0)
                         injection ea_ with ea_ en_ ec_
                         subst ea_
                         subst ec_
                         clear en_
                         have p150 : 0 ≤ (x9_4 : Int) := oa
                         have q150 : x9_4 < (((rd_T165 ((rd_T162 l0_0 x5_1).f2) x8_3).f0).length : Int) := oa
                         obtain ⟨ad150, A150_2, c150_2, e150, hx150_0, hx150_1, hx150_2, hx150_3, hl150_2, hi150_2⟩ := at_T167 HR149_0.out x9_4 p150 q150
                         cases e150
                         replace hx150_0 := hbc HB.out hx150_0
                         replace hx150_1 := hbc HB.out hx150_1
                         replace hx150_2 := hbc HB.out hx150_2
                         replace hx150_3 := hbc HB.out hx150_3
                         have HR150_2 := Aside0.mk hi150_2
                         have HC150_2 := Aside0.mk hl150_2
                         clear hi150_2 hl150_2
                         replace p150 := eq_true p150
                         replace q150 := eq_true q150
                         go_wp2_with (first | ((with_reducible refine gate_dst (N := 10) rfl ?_); (try (refine gate_guard (by rfl) ?_; dsimp only)); refine box_event ?hg (N := 10) ?hd (cs := #[.int .i64 0, .string (⟨#[]⟩ : ByteArray), .slice none 0 0, .string (⟨#[]⟩ : ByteArray)]) (t := 167) ?hr ?_; (case hd => rfl); (case hg => rfl); (case hr => first | (go_simp; done) | (go_simp; rfl)); intro gb151 hg w162 hbox hb; have n0_ := Aside0.mk (blk_below (g := gb139) (o := .cells #[.slice (some ad141) l0_0.length c0_0] 83 (0, 0)) bx hb); have n1_ := Aside0.mk (blk_below (g := gb140) (o := .cells #[.slice (some ad143) l1_0.length c1_0] 83 (0, 0)) bx hb); have n2_ := Aside0.mk (blk_below (g := gb142) (o := .cells #[.string ((rd_T162 l0_0 x5_1).f0), .slice A141_1 ((rd_T162 l0_0 x5_1).f1).length c141_1, .slice (some ad146) ((rd_T162 l0_0 x5_1).f2).length c141_2] 162 (0, 0)) bx hb); have n3_ := Aside0.mk (blk_below (g := gb144) (o := .cells #[.string ((rd_T162 l1_0 x5_1).f0), .slice A143_1 ((rd_T162 l1_0 x5_1).f1).length c143_1, .slice (some ad147) ((rd_T162 l1_0 x5_1).f2).length c143_2] 162 (0, 0)) bx hb); have n4_ := Aside0.mk (below_step bw hb); have n5_ := Aside0.mk (hbox); have n6_ := Aside0.mk ((bz bw hg : w.heap.size ≤ gb151)); have n7_ := Aside0.mk ((bz bw hg : w.heap.size ≤ gb151)); have n8_ := Aside0.mk ((bl bx hg : gb139 ≠ gb151)); have n9_ := Aside0.mk ((bl' bx hg : gb151 ≠ gb139)); have n10_ := Aside0.mk ((bl bx hg : gb140 ≠ gb151)); have n11_ := Aside0.mk ((bl' bx hg : gb151 ≠ gb140)); have n12_ := Aside0.mk ((bl bx hg : gb142 ≠ gb151)); have n13_ := Aside0.mk ((bl' bx hg : gb151 ≠ gb142)); have n14_ := Aside0.mk ((bl bx hg : gb144 ≠ gb151)); have n15_ := Aside0.mk ((bl' bx hg : gb151 ≠ gb144)); clear BK139; clear BK140; clear BK142; clear BK144; clear HB; have BK139 := n0_; have BK140 := n1_; have BK142 := n2_; have BK144 := n3_; have HB := n4_; have BK151 := n5_; have GW151 := n6_; have GE151 := n7_; have NB139_151 := n8_; have NB151_139 := n9_; have NB140_151 := n10_; have NB151_140 := n11_; have NB142_151 := n12_; have NB151_142 := n13_; have NB144_151 := n14_; have NB151_144 := n15_; clear n0_ n1_ n2_ n3_ n4_ n5_ n6_ n7_ n8_ n9_ n10_ n11_ n12_ n13_ n14_ n15_; clear hb hbox hg; have hnb163 := NB151_139.out; have hnc163 := NB139_151.out; have hnb164 := NB151_140.out; have hnc164 := NB140_151.out; have hnb165 := NB151_142.out; have hnc165 := NB142_151.out; have hnb166 := NB151_144.out; have hnc166 := NB144_151.out; obtain ⟨hcz167_0, hcz167_1, hcz167_2, hcz167_3, hfz167_0, hfz167_1, hfz167_2, hfz167_3⟩ := bc4 BK151.out; have hnb168 := NB144_139.out; have hnc168 := NB139_144.out; have hnb169 := NB144_140.out; have hnc169 := NB140_144.out; obtain ⟨hcz170_0, hcz170_1, hcz170_2, hfz170_0, hfz170_1, hfz170_2⟩ := bc3 BK144.out; have p152 : 0 ≤ (x8_3 : Int) := oa; have q152 : x8_3 < (((rd_T162 l1_0 x5_1).f2).length : Int) := oa; obtain ⟨ad152, A152_0, c152_0, e152, hx152_0, hl152_0, hi152_0⟩ := at_T165 HR143_2.out x8_3 p152 q152; obtain rfl : ad147 = ad152 := (by injection e152); have hn152_0 : ad147.block ≠ gb151 := (by first | exact bn hx152_0 GW151.out | exact bm hx152_0 GW151.out); have hn152_1 : ad147.block ≠ gb151 := (by first | exact bn hx152_0 GW151.out | exact bm hx152_0 GW151.out); have hn152_2 : ad147.block ≠ gb151 := (by first | exact bn hx152_0 GW151.out | exact bm hx152_0 GW151.out); have hn152_3 : ad147.block ≠ gb151 := (by first | exact bn hx152_0 GW151.out | exact bm hx152_0 GW151.out); replace hx152_0 := hbc HB.out hx152_0; have HR152_0 := Aside0.mk hi152_0; have HC152_0 := Aside0.mk hl152_0; clear hi152_0 hl152_0; replace hx152_0 := fx ⟨gb151, 0, none⟩ (.int .i64 ((rd_T167 ((rd_T165 ((rd_T162 l0_0 x5_1).f2) x8_3).f0) x9_4).f0)) hx152_0; replace hx152_0 := fx ⟨gb151, 1, none⟩ (.string ((rd_T167 ((rd_T165 ((rd_T162 l0_0 x5_1).f2) x8_3).f0) x9_4).f1)) hx152_0; replace hx152_0 := fx ⟨gb151, 2, none⟩ (.slice A150_2 ((rd_T167 ((rd_T165 ((rd_T162 l0_0 x5_1).f2) x8_3).f0) x9_4).f2).length c150_2) hx152_0; replace hx152_0 := fx ⟨gb151, 3, none⟩ (.string ((rd_T167 ((rd_T165 ((rd_T162 l0_0 x5_1).f2) x8_3).f0) x9_4).f3)) hx152_0; (try have hy152_0 := dn4 hx152_0); clear hn152_0; clear hn152_1; clear hn152_2; clear hn152_3; replace p152 := eq_true p152; replace q152 := eq_true q152; have p153 : 0 ≤ (x9_4 : Int) := oa; have q153 : x9_4 < (((rd_T165 ((rd_T162 l1_0 x5_1).f2) x8_3).f0).length : Int) := oa; obtain ⟨ad153, A153_2, c153_2, e153, hx153_0, hx153_1, hx153_2, hx153_3, hl153_2, hi153_2⟩ := at_T167 HR152_0.out x9_4 p153 q153; cases e153; have hn153_0 : ad153.block ≠ gb151 := (by first | exact bn hx153_0 GW151.out | exact bm hx153_0 GW151.out); have hn153_1 : ad153.block ≠ gb151 := (by first | exact bn hx153_0 GW151.out | exact bm hx153_0 GW151.out); have hn153_2 : ad153.block ≠ gb151 := (by first | exact bn hx153_0 GW151.out | exact bm hx153_0 GW151.out); have hn153_3 : ad153.block ≠ gb151 := (by first | exact bn hx153_0 GW151.out | exact bm hx153_0 GW151.out); replace hx153_0 := hbc HB.out hx153_0; replace hx153_1 := hbc HB.out hx153_1; replace hx153_2 := hbc HB.out hx153_2; replace hx153_3 := hbc HB.out hx153_3; have HR153_2 := Aside0.mk hi153_2; have HC153_2 := Aside0.mk hl153_2; clear hi153_2 hl153_2; replace hx153_0 := fx ⟨gb151, 0, none⟩ (.int .i64 ((rd_T167 ((rd_T165 ((rd_T162 l0_0 x5_1).f2) x8_3).f0) x9_4).f0)) hx153_0; replace hx153_1 := fx ⟨gb151, 0, none⟩ (.int .i64 ((rd_T167 ((rd_T165 ((rd_T162 l0_0 x5_1).f2) x8_3).f0) x9_4).f0)) hx153_1; replace hx153_2 := fx ⟨gb151, 0, none⟩ (.int .i64 ((rd_T167 ((rd_T165 ((rd_T162 l0_0 x5_1).f2) x8_3).f0) x9_4).f0)) hx153_2; replace hx153_3 := fx ⟨gb151, 0, none⟩ (.int .i64 ((rd_T167 ((rd_T165 ((rd_T162 l0_0 x5_1).f2) x8_3).f0) x9_4).f0)) hx153_3; replace hx153_0 := fx ⟨gb151, 1, none⟩ (.string ((rd_T167 ((rd_T165 ((rd_T162 l0_0 x5_1).f2) x8_3).f0) x9_4).f1)) hx153_0; replace hx153_1 := fx ⟨gb151, 1, none⟩ (.string ((rd_T167 ((rd_T165 ((rd_T162 l0_0 x5_1).f2) x8_3).f0) x9_4).f1)) hx153_1; replace hx153_2 := fx ⟨gb151, 1, none⟩ (.string ((rd_T167 ((rd_T165 ((rd_T162 l0_0 x5_1).f2) x8_3).f0) x9_4).f1)) hx153_2; replace hx153_3 := fx ⟨gb151, 1, none⟩ (.string ((rd_T167 ((rd_T165 ((rd_T162 l0_0 x5_1).f2) x8_3).f0) x9_4).f1)) hx153_3; replace hx153_0 := fx ⟨gb151, 2, none⟩ (.slice A150_2 ((rd_T167 ((rd_T165 ((rd_T162 l0_0 x5_1).f2) x8_3).f0) x9_4).f2).length c150_2) hx153_0; replace hx153_1 := fx ⟨gb151, 2, none⟩ (.slice A150_2 ((rd_T167 ((rd_T165 ((rd_T162 l0_0 x5_1).f2) x8_3).f0) x9_4).f2).length c150_2) hx153_1; replace hx153_2 := fx ⟨gb151, 2, none⟩ (.slice A150_2 ((rd_T167 ((rd_T165 ((rd_T162 l0_0 x5_1).f2) x8_3).f0) x9_4).f2).length c150_2) hx153_2; replace hx153_3 := fx ⟨gb151, 2, none⟩ (.slice A150_2 ((rd_T167 ((rd_T165 ((rd_T162 l0_0 x5_1).f2) x8_3).f0) x9_4).f2).length c150_2) hx153_3; replace hx153_0 := fx ⟨gb151, 3, none⟩ (.string ((rd_T167 ((rd_T165 ((rd_T162 l0_0 x5_1).f2) x8_3).f0) x9_4).f3)) hx153_0; replace hx153_1 := fx ⟨gb151, 3, none⟩ (.string ((rd_T167 ((rd_T165 ((rd_T162 l0_0 x5_1).f2) x8_3).f0) x9_4).f3)) hx153_1; replace hx153_2 := fx ⟨gb151, 3, none⟩ (.string ((rd_T167 ((rd_T165 ((rd_T162 l0_0 x5_1).f2) x8_3).f0) x9_4).f3)) hx153_2; replace hx153_3 := fx ⟨gb151, 3, none⟩ (.string ((rd_T167 ((rd_T165 ((rd_T162 l0_0 x5_1).f2) x8_3).f0) x9_4).f3)) hx153_3; (try have hy153_0 := dn4 hx153_0); (try have hy153_1 := dn4 hx153_1); (try have hy153_2 := dn4 hx153_2); (try have hy153_3 := dn4 hx153_3); clear hn153_0; clear hn153_1; clear hn153_2; clear hn153_3; replace p153 := eq_true p153; replace q153 := eq_true q153) | ((with_reducible refine gate_dst (N := 11) rfl ?_); (try (refine gate_guard (by rfl) ?_; dsimp only)); refine box_event ?hg (N := 11) ?hd (cs := #[.int .i64 0, .string (⟨#[]⟩ : ByteArray), .slice none 0 0, .string (⟨#[]⟩ : ByteArray)]) (t := 167) ?hr ?_; (case hd => rfl); (case hg => rfl); (case hr => first | (go_simp; done) | (go_simp; rfl)); intro gb154 hg w171 hbox hb; have n0_ := Aside0.mk (blk_below (g := gb139) (o := .cells #[.slice (some ad141) l0_0.length c0_0] 83 (0, 0)) bx hb); have n1_ := Aside0.mk (blk_below (g := gb140) (o := .cells #[.slice (some ad143) l1_0.length c1_0] 83 (0, 0)) bx hb); have n2_ := Aside0.mk (blk_below (g := gb142) (o := .cells #[.string ((rd_T162 l0_0 x5_1).f0), .slice A141_1 ((rd_T162 l0_0 x5_1).f1).length c141_1, .slice (some ad146) ((rd_T162 l0_0 x5_1).f2).length c141_2] 162 (0, 0)) bx hb); have n3_ := Aside0.mk (blk_below (g := gb144) (o := .cells #[.string ((rd_T162 l1_0 x5_1).f0), .slice A143_1 ((rd_T162 l1_0 x5_1).f1).length c143_1, .slice (some ad147) ((rd_T162 l1_0 x5_1).f2).length c143_2] 162 (0, 0)) bx hb); have n4_ := Aside0.mk (blk_below (g := gb151) (o := .cells #[.int .i64 ((rd_T167 ((rd_T165 ((rd_T162 l0_0 x5_1).f2) x8_3).f0) x9_4).f0), .string ((rd_T167 ((rd_T165 ((rd_T162 l0_0 x5_1).f2) x8_3).f0) x9_4).f1), .slice A150_2 ((rd_T167 ((rd_T165 ((rd_T162 l0_0 x5_1).f2) x8_3).f0) x9_4).f2).length c150_2, .string ((rd_T167 ((rd_T165 ((rd_T162 l0_0 x5_1).f2) x8_3).f0) x9_4).f3)] 167 (0, 0)) bx hb); have n5_ := Aside0.mk (below_step bw hb); have n6_ := Aside0.mk (hbox); have n7_ := Aside0.mk ((bz bw hg : w.heap.size ≤ gb154)); have n8_ := Aside0.mk ((bz bw hg : w.heap.size ≤ gb154)); have n9_ := Aside0.mk ((bl bx hg : gb139 ≠ gb154)); have n10_ := Aside0.mk ((bl' bx hg : gb154 ≠ gb139)); have n11_ := Aside0.mk ((bl bx hg : gb140 ≠ gb154)); have n12_ := Aside0.mk ((bl' bx hg : gb154 ≠ gb140)); have n13_ := Aside0.mk ((bl bx hg : gb142 ≠ gb154)); have n14_ := Aside0.mk ((bl' bx hg : gb154 ≠ gb142)); have n15_ := Aside0.mk ((bl bx hg : gb144 ≠ gb154)); have n16_ := Aside0.mk ((bl' bx hg : gb154 ≠ gb144)); have n17_ := Aside0.mk ((bl bx hg : gb151 ≠ gb154)); have n18_ := Aside0.mk ((bl' bx hg : gb154 ≠ gb151)); clear BK139; clear BK140; clear BK142; clear BK144; clear BK151; clear HB; have BK139 := n0_; have BK140 := n1_; have BK142 := n2_; have BK144 := n3_; have BK151 := n4_; have HB := n5_; have BK154 := n6_; have GW154 := n7_; have GE154 := n8_; have NB139_154 := n9_; have NB154_139 := n10_; have NB140_154 := n11_; have NB154_140 := n12_; have NB142_154 := n13_; have NB154_142 := n14_; have NB144_154 := n15_; have NB154_144 := n16_; have NB151_154 := n17_; have NB154_151 := n18_; clear n0_ n1_ n2_ n3_ n4_ n5_ n6_ n7_ n8_ n9_ n10_ n11_ n12_ n13_ n14_ n15_ n16_ n17_ n18_; clear hb hbox hg; have hnb172 := NB154_139.out; have hnc172 := NB139_154.out; have hnb173 := NB154_140.out; have hnc173 := NB140_154.out; have hnb174 := NB154_142.out; have hnc174 := NB142_154.out; have hnb175 := NB154_144.out; have hnc175 := NB144_154.out; have hnb176 := NB154_151.out; have hnc176 := NB151_154.out; obtain ⟨hcz177_0, hcz177_1, hcz177_2, hcz177_3, hfz177_0, hfz177_1, hfz177_2, hfz177_3⟩ := bc4 BK154.out; obtain ⟨hcz178_0, hcz178_1, hcz178_2, hcz178_3, hfz178_0, hfz178_1, hfz178_2, hfz178_3⟩ := bc4 BK151.out))
                         repeat (go_quiet (fail); try go_wp2_with (fail))
                         go_ret
                         exact ⟨by first | rfl | (simp [errW_none, errW_some] <;> rfl) | (simp [*, errW_none, errW_some] <;> rfl), by repeat (first | (with_reducible first | exact HB.out | apply below_alloc | apply pw_below_drewN | apply below_drew1 | refine below_set ?_ GE139.out | refine below_set ?_ GE140.out | refine below_set ?_ GE142.out | refine below_set ?_ GE144.out | refine below_set ?_ GE151.out | refine below_set ?_ GE154.out) | exact HB.out)⟩
                       ·rw [if_neg c66] at H
                        exact absurd H (by simp)
                      ·rw [if_neg c65] at H
                       exact absurd H (by simp)
                     ·rw [if_neg c64] at H
                      exact absurd H (by simp)
                    ·rw [if_neg c63] at H
                     have c63b0 : decide (x9_4 < (((rd_T165 ((rd_T162 l0_0 x5_1).f2) x8_3).f0).length : Int)) = false := decide_eq_false c63
                     clear c63
                     have H' := Aside0.mk H
                     clear H
                     have hnb179 := NB142_139.out
                     have hnc179 := NB139_142.out
                     have hnb180 := NB142_140.out
                     have hnc180 := NB140_142.out
                     have hnb181 := NB142_144.out
                     have hnc181 := NB144_142.out
                     obtain ⟨hcz182_0, hcz182_1, hcz182_2, hfz182_0, hfz182_1, hfz182_2⟩ := bc3 BK142.out
                     have p148 : 0 ≤ (x8_3 : Int) := oa
                     have q148 : x8_3 < (((rd_T162 l0_0 x5_1).f2).length : Int) := oa
                     obtain ⟨ad148, A148_0, c148_0, e148, hx148_0, hl148_0, hi148_0⟩ := at_T165 HR141_2.out x8_3 p148 q148
                     obtain rfl : ad146 = ad148 := (by injection e148)
                     replace hx148_0 := hbc HB.out hx148_0
                     have HR148_0 := Aside0.mk hi148_0
                     have HC148_0 := Aside0.mk hl148_0
                     clear hi148_0 hl148_0
                     replace p148 := eq_true p148
                     replace q148 := eq_true q148
                     go_wp2
                     repeat (go_quiet (fail); try go_wp2)
                     go_roundg k4
                     case measure => have := HK1.out; have := HJ11.out; have := HK3.out; have := HK4.out; omega
                     case rel => exact ⟨(wrap64 (x8_3 + 1)), (by first | rfl | (simp; done) | (simp [*]; done) | (simp [isE0, isE1]; done)), H', ⟨by have := HK1.out; have := HJ11.out; have := HK3.out; have := HK4.out; omega⟩, ⟨by (with_reducible repeat (first | refine blk_drewN ?_ _ | refine blk_drew ?_ | refine blk_alloc ?_ _)); exact BK139.out⟩, ⟨by (with_reducible repeat (first | refine blk_drewN ?_ _ | refine blk_drew ?_ | refine blk_alloc ?_ _)); exact BK140.out⟩, ⟨by (with_reducible repeat (first | refine blk_drewN ?_ _ | refine blk_drew ?_ | refine blk_alloc ?_ _)); exact BK142.out⟩, ⟨by (with_reducible repeat (first | refine blk_drewN ?_ _ | refine blk_drew ?_ | refine blk_alloc ?_ _)); exact BK144.out⟩, ⟨by repeat (first | (with_reducible first | exact HB.out | apply below_alloc | apply pw_below_drewN | apply below_drew1 | refine below_set ?_ GE139.out | refine below_set ?_ GE140.out | refine below_set ?_ GE142.out | refine below_set ?_ GE144.out) | exact HB.out)⟩⟩
                   ·rw [if_neg c62] at H
                    exact absurd H (by simp)
                  ·rw [if_neg c61] at H
                   exact absurd H (by simp)
               ·rw [if_neg c53] at H
                have c53b0 : ((((rd_T165 ((rd_T162 l0_0 x5_1).f2) x8_3).f0).length : Int) == (((rd_T165 ((rd_T162 l1_0 x5_1).f2) x8_3).f0).length : Int)) = false := beq_eq_false_iff_ne.mpr c53
                have c53b1 : ((((rd_T165 ((rd_T162 l0_0 x5_1).f2) x8_3).f0).length : Int) != (((rd_T165 ((rd_T162 l1_0 x5_1).f2) x8_3).f0).length : Int)) = true := bne_iff_ne.mpr c53
                have c53b2 : (((rd_T165 ((rd_T162 l0_0 x5_1).f2) x8_3).f0).length == ((rd_T165 ((rd_T162 l1_0 x5_1).f2) x8_3).f0).length) = false := by first | simpa using c53 | (simp at c53 ⊢; omega)
                obtain rfl := Option.some.inj H
                have hnb183 := NB142_139.out
                have hnc183 := NB139_142.out
                have hnb184 := NB142_140.out
                have hnc184 := NB140_142.out
                have hnb185 := NB142_144.out
                have hnc185 := NB144_142.out
                obtain ⟨hcz186_0, hcz186_1, hcz186_2, hfz186_0, hfz186_1, hfz186_2⟩ := bc3 BK142.out
                have p146 : 0 ≤ (x8_3 : Int) := oa
                have q146 : x8_3 < (((rd_T162 l0_0 x5_1).f2).length : Int) := oa
                obtain ⟨ad146, A146_0, c146_0, e146, hx146_0, hl146_0, hi146_0⟩ := at_T165 HR141_2.out x8_3 p146 q146
                cases e146
                replace hx146_0 := hbc HB.out hx146_0
                have HR146_0 := Aside0.mk hi146_0
                have HC146_0 := Aside0.mk hl146_0
                clear hi146_0 hl146_0
                replace p146 := eq_true p146
                replace q146 := eq_true q146
                have hnb187 := NB144_139.out
                have hnc187 := NB139_144.out
                have hnb188 := NB144_140.out
                have hnc188 := NB140_144.out
                obtain ⟨hcz189_0, hcz189_1, hcz189_2, hfz189_0, hfz189_1, hfz189_2⟩ := bc3 BK144.out
                have p147 : 0 ≤ (x8_3 : Int) := oa
                have q147 : x8_3 < (((rd_T162 l1_0 x5_1).f2).length : Int) := oa
                obtain ⟨ad147, A147_0, c147_0, e147, hx147_0, hl147_0, hi147_0⟩ := at_T165 HR143_2.out x8_3 p147 q147
                cases e147
                replace hx147_0 := hbc HB.out hx147_0
                have HR147_0 := Aside0.mk hi147_0
                have HC147_0 := Aside0.mk hl147_0
                clear hi147_0 hl147_0
                replace p147 := eq_true p147
                replace q147 := eq_true q147
                go_wp2
                repeat (go_quiet (fail); try go_wp2)
                go_ret
                exact ⟨by first | rfl | (simp [errW_none, errW_some] <;> rfl) | (simp [*, errW_none, errW_some] <;> rfl), by repeat (first | (with_reducible first | exact HB.out | apply below_alloc | apply pw_below_drewN | apply below_drew1 | refine below_set ?_ GE139.out | refine below_set ?_ GE140.out | refine below_set ?_ GE142.out | refine below_set ?_ GE144.out) | exact HB.out)⟩
              ·rw [if_neg c52] at H
               exact absurd H (by simp)
             ·rw [if_neg c51] at H
              exact absurd H (by simp)
            ·rw [if_neg c50] at H
             have c50b0 : decide (x8_3 < (((rd_T162 l0_0 x5_1).f2).length : Int)) = false := decide_eq_false c50
             clear c50
             have H' := Aside0.mk H
             clear H
             have hnb190 := NB142_139.out
             have hnc190 := NB139_142.out
             have hnb191 := NB142_140.out
             have hnc191 := NB140_142.out
             have hnb192 := NB142_144.out
             have hnc192 := NB144_142.out
             obtain ⟨hcz193_0, hcz193_1, hcz193_2, hfz193_0, hfz193_1, hfz193_2⟩ := bc3 BK142.out
             go_wp2
             repeat (go_quiet (fail); try go_wp2)
             go_roundg k3
             case measure => have := HK1.out; have := HJ11.out; have := HK3.out; omega
             case rel => exact ⟨(wrap64 (x5_1 + 1)), (by first | rfl | (simp; done) | (simp [*]; done) | (simp [isE0, isE1]; done)), H', ⟨by have := HK1.out; have := HJ11.out; have := HK3.out; omega⟩, ⟨by (with_reducible repeat (first | refine blk_drewN ?_ _ | refine blk_drew ?_ | refine blk_alloc ?_ _)); exact BK139.out⟩, ⟨by (with_reducible repeat (first | refine blk_drewN ?_ _ | refine blk_drew ?_ | refine blk_alloc ?_ _)); exact BK140.out⟩, ⟨by repeat (first | (with_reducible first | exact HB.out | apply below_alloc | apply pw_below_drewN | apply below_drew1 | refine below_set ?_ GE139.out | refine below_set ?_ GE140.out | refine below_set ?_ GE142.out | refine below_set ?_ GE144.out) | exact HB.out)⟩⟩
      ·rw [if_neg c11] at H
       exact absurd H (by simp)
     ·rw [if_neg c10] at H
      exact absurd H (by simp)
    ·rw [if_neg c9] at H
     have c9b0 : decide (x5_1 < (l0_0.length : Int)) = false := decide_eq_false c9
     clear c9
     obtain rfl := Option.some.inj H
     have hnb194 := NB139_140.out
     have hnc194 := NB140_139.out
     obtain ⟨hcz195_0, hfz195_0⟩ := bc1 BK139.out
     go_wp2
     repeat (go_quiet (fail); try go_wp2)
     go_ret
     exact ⟨by first | rfl | (simp [errW_none, errW_some] <;> rfl) | (simp [*, errW_none, errW_some] <;> rfl), by repeat (first | (with_reducible first | exact HB.out | apply below_alloc | apply pw_below_drewN | apply below_drew1 | refine below_set ?_ GE139.out | refine below_set ?_ GE140.out) | exact HB.out)⟩
 ·rw [if_neg c3] at H
  have c3b0 : ((l0_0.length : Int) == (l1_0.length : Int)) = false := beq_eq_false_iff_ne.mpr c3
  have c3b1 : ((l0_0.length : Int) != (l1_0.length : Int)) = true := bne_iff_ne.mpr c3
  have c3b2 : (l0_0.length == l1_0.length) = false := by first | simpa using c3 | (simp at c3 ⊢; omega)
  obtain rfl := Option.some.inj H
  go_enter Try.func46, Try.ntmps46
  go_wp2_with (first | ((with_reducible refine gate_dst (N := 2) rfl ?_); (try (refine gate_guard (by rfl) ?_; dsimp only)); refine box_event ?hg (N := 2) ?hd (cs := #[.slice A0_0 l0_0.length c0_0]) (t := 83) ?hr ?_; (case hd => rfl); (case hg => rfl); (case hr => first | (go_simp; done) | (go_simp; rfl)); intro gb139 hg w196 hbox hb; have n0_ := Aside0.mk (below_step bw hb); have n1_ := Aside0.mk (hbox); have n2_ := Aside0.mk ((bz bw hg : w.heap.size ≤ gb139)); have n3_ := Aside0.mk ((bz bw hg : w.heap.size ≤ gb139)); clear HB; have HB := n0_; have BK139 := n1_; have GW139 := n2_; have GE139 := n3_; clear n0_ n1_ n2_ n3_; clear hb hbox hg) | ((with_reducible refine gate_dst (N := 3) rfl ?_); (try (refine gate_guard (by rfl) ?_; dsimp only)); refine box_event ?hg (N := 3) ?hd (cs := #[.slice A1_0 l1_0.length c1_0]) (t := 83) ?hr ?_; (case hd => rfl); (case hg => rfl); (case hr => first | (go_simp; done) | (go_simp; rfl)); intro gb140 hg w197 hbox hb; have n0_ := Aside0.mk (blk_below (g := gb139) (o := .cells #[.slice A0_0 l0_0.length c0_0] 83 (0, 0)) bx hb); have n1_ := Aside0.mk (below_step bw hb); have n2_ := Aside0.mk (hbox); have n3_ := Aside0.mk ((bz bw hg : w.heap.size ≤ gb140)); have n4_ := Aside0.mk ((bz bw hg : w.heap.size ≤ gb140)); have n5_ := Aside0.mk ((bl bx hg : gb139 ≠ gb140)); have n6_ := Aside0.mk ((bl' bx hg : gb140 ≠ gb139)); clear BK139; clear HB; have BK139 := n0_; have HB := n1_; have BK140 := n2_; have GW140 := n3_; have GE140 := n4_; have NB139_140 := n5_; have NB140_139 := n6_; clear n0_ n1_ n2_ n3_ n4_ n5_ n6_; clear hb hbox hg; have hnb198 := NB139_140.out; have hnc198 := NB140_139.out; obtain ⟨hcz199_0, hfz199_0⟩ := bc1 BK139.out; obtain ⟨hcz200_0, hfz200_0⟩ := bc1 BK140.out))
  repeat (go_quiet (fail); try go_wp2_with (fail))
  go_ret
  exact ⟨by first | rfl | (simp [errW_none, errW_some] <;> rfl) | (simp [*, errW_none, errW_some] <;> rfl), by repeat (first | (with_reducible first | exact HB.out | apply below_alloc | apply pw_below_drewN | apply below_drew1 | refine below_set ?_ GE139.out | refine below_set ?_ GE140.out) | exact HB.out)⟩

end Go.Proofs.Ytlkbdoejeomlmaa.PFnExactSameGrammar
