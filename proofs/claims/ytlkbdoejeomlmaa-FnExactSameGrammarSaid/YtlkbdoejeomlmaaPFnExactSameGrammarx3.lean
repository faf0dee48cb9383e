/- Written by a program of this session out of Lean's print of the translation: what the calls of these Go functions come to, in plain Lean. No condition. -/
import Derived.Test.YtlkbdoejeomlmaaPFnExactSameGrammarx0
import Derived.Test.YtlkbdoejeomlmaaPFnExactSameGrammarx2
namespace Go.Proofs.Ytlkbdoejeomlmaa.PFnExactSameGrammar
open Go.RowKit Go.Proofs.YtlkbdoejeomlmaaW.PrintWords Go.Proofs.YtlkbdoejeomlmaaW.PrintLast Go.Proofs.YtlkbdoejeomlmaaW.PrintMore
attribute [local go_sem] max2_int min2_int max_two min_two max_three min_three max_four min_four   -- for this text's walks alone
set_option linter.unusedVariables false
set_option linter.unusedSimpArgs false

/-! ### spec_l11SameExprs: function 99 -/
mutual
def spec_l11SameExprs.l0 : Nat → List (S26) → List (S26) → Int → Option (Bool)
  | 0, _, _, _ => none
  | k + 1, x0, x1, x5 => if x5 < (x0.length : Int) then (if 0 ≤ x5 then (if x5 < (x1.length : Int) then (if (((rd_T26 x0 x5).f0).length : Int) = (((rd_T26 x1 x5).f0).length : Int) then (spec_l11SameExprs.l1 k x0 x1 x5 0) else (some false)) else (none)) else (none)) else (some true)
def spec_l11SameExprs.l1 : Nat → List (S26) → List (S26) → Int → Int → Option (Bool)
  | 0, _, _, _, _ => none
  | k + 1, x0, x1, x5, x6 => if 0 ≤ x5 then (if x5 < (x0.length : Int) then (if x6 < (((rd_T26 x0 x5).f0).length : Int) then (if 0 ≤ x6 then (if x5 < (x1.length : Int) then (if x6 < (((rd_T26 x1 x5).f0).length : Int) then (if ((rd_T32 ((rd_T26 x0 x5).f0) x6).f0) = ((rd_T32 ((rd_T26 x1 x5).f0) x6).f0) then (if ((rd_T32 ((rd_T26 x0 x5).f0) x6).f1) = ((rd_T32 ((rd_T26 x1 x5).f0) x6).f1) then (if ((rd_T32 ((rd_T26 x0 x5).f0) x6).f2).toList = ((rd_T32 ((rd_T26 x1 x5).f0) x6).f2).toList then ((spec_l07SameInts.f k ((rd_T32 ((rd_T26 x0 x5).f0) x6).f3) ((rd_T32 ((rd_T26 x1 x5).f0) x6).f3)).bind fun t136 => (if t136 = true then (spec_l11SameExprs.l1 k x0 x1 x5 (wrap64 (x6 + 1))) else (some false))) else (some false)) else (some false)) else (some false)) else (none)) else (none)) else (none)) else (spec_l11SameExprs.l0 k x0 x1 (wrap64 (x5 + 1)))) else (none)) else (none)
end
def spec_l11SameExprs.f (k : Nat) (l0 : List (S26)) (l1 : List (S26)) : Option (Bool) := if (l0.length : Int) = (l1.length : Int) then (spec_l11SameExprs.l0 k l0 l1 0) else (some false)
theorem spec_l11SameExprs.mono_l : ∀ k, (∀ y0 y1 y2, LeO (spec_l11SameExprs.l0 k y0 y1 y2) (spec_l11SameExprs.l0 (k + 1) y0 y1 y2)) ∧ (∀ y0 y1 y2 y3, LeO (spec_l11SameExprs.l1 k y0 y1 y2 y3) (spec_l11SameExprs.l1 (k + 1) y0 y1 y2 y3))
  | 0 => ⟨fun _ _ _ r h => by simp [spec_l11SameExprs.l0] at h, fun _ _ _ _ r h => by simp [spec_l11SameExprs.l1] at h⟩
  | k + 1 => by
    obtain ⟨ih0, ih1⟩ := spec_l11SameExprs.mono_l k
    refine ⟨?_, ?_⟩
    · intro y0 y1 y2
      unfold spec_l11SameExprs.l0
      repeat' first
      | (with_reducible exact ih0 _ _ _)
      | (with_reducible exact ih1 _ _ _ _)
      | (with_reducible exact spec_l07SameInts.mono _ _ _)
      | (with_reducible exact LeO.refl _)
      | (with_reducible exact LeO.none _)
      | (with_reducible refine LeO.ite ?_ ?_)
      | (with_reducible refine LeO.bind ?_ (fun _ => ?_))
      | exact ih0 _ _ _
      | exact ih1 _ _ _ _
      | exact spec_l07SameInts.mono _ _ _
      | exact LeO.none _
      | refine LeO.ite ?_ ?_
      | refine LeO.bind ?_ (fun _ => ?_)
    · intro y0 y1 y2 y3
      unfold spec_l11SameExprs.l1
      repeat' first
      | (with_reducible exact ih0 _ _ _)
      | (with_reducible exact ih1 _ _ _ _)
      | (with_reducible exact spec_l07SameInts.mono _ _ _)
      | (with_reducible exact LeO.refl _)
      | (with_reducible exact LeO.none _)
      | (with_reducible refine LeO.ite ?_ ?_)
      | (with_reducible refine LeO.bind ?_ (fun _ => ?_))
      | exact ih0 _ _ _
      | exact ih1 _ _ _ _
      | exact spec_l07SameInts.mono _ _ _
      | exact LeO.none _
      | refine LeO.ite ?_ ?_
      | refine LeO.bind ?_ (fun _ => ?_)
theorem spec_l11SameExprs.mono : ∀ a0 a1 k, LeO (spec_l11SameExprs.f k a0 a1) (spec_l11SameExprs.f (k + 1) a0 a1) := by
  intro a0 a1 k
  obtain ⟨ih0, ih1⟩ := spec_l11SameExprs.mono_l k
  unfold spec_l11SameExprs.f
  repeat' first
      | (with_reducible exact ih0 _ _ _)
      | (with_reducible exact ih1 _ _ _ _)
      | (with_reducible exact spec_l07SameInts.mono _ _ _)
      | (with_reducible exact LeO.refl _)
      | (with_reducible exact LeO.none _)
      | (with_reducible refine LeO.ite ?_ ?_)
      | (with_reducible refine LeO.bind ?_ (fun _ => ?_))
      | exact ih0 _ _ _
      | exact ih1 _ _ _ _
      | exact spec_l07SameInts.mono _ _ _
      | exact LeO.none _
      | refine LeO.ite ?_ ?_
      | refine LeO.bind ?_ (fun _ => ?_)
set_option maxHeartbeats 8000000 in
set_option maxRecDepth 100000 in
theorem spec_l11SameExprs.calls (k : Nat) (A0 : Option Addr) (c0 : Nat) (l0 : List (S26)) (A1 : Option Addr) (c1 : Nat) (l1 : List (S26)) (r : Bool) (w : World) (hr0 : Kd.C k26 w A0 l0.length l0) (hc0 : l0.length ≤ c0) (hr1 : Kd.C k26 w A1 l1.length l1) (hc1 : l1.length ≤ c1) (h : spec_l11SameExprs.f k l0 l1 = some r) :
    Calls Try.prog 99 #[.slice A0 l0.length c0, .slice A1 l1.length c1] w fun e w' => e = .returned (.bool r) ∧ Below w.heap.size w w' := by
  have hu32 := Try.underlying32
  have HR0 := Aside0.mk hr0
  have HC0 := Aside0.mk hc0
  clear hr0 hc0
  have HR1 := Aside0.mk hr1
  have HC1 := Aside0.mk hc1
  clear hr1 hc1
  have HB := Aside0.mk (Below.refl w.heap.size w)
  have H : (if (l0.length : Int) = (l1.length : Int) then (spec_l11SameExprs.l0 k l0 l1 0) else (some false)) = some r := h
  clear h
  by_cases c3 : (l0.length : Int) = (l1.length : Int)
  · rw [if_pos c3] at H
    have c3b0 : ((l0.length : Int) == (l1.length : Int)) = true := beq_iff_eq.mpr c3
    have c3b1 : ((l0.length : Int) != (l1.length : Int)) = false := bne_eq_false_iff_eq.mpr c3
    have c3b2 : (l0.length == l1.length) = true := by first | simpa using c3 | (simp at c3 ⊢; omega)
    clear c3
    have H' := Aside0.mk H
    clear H
    go_enter Try.func99, Try.ntmps99
    go_wp2
    repeat (go_quiet (fail); try go_wp2)
    go_loopg [5] k (fun kq v5 w' => ∃ (x5_1 : Int), v5 = .int .i64 x5_1 ∧ Aside0 (spec_l11SameExprs.l0 kq l0 l1 x5_1 = some r) ∧ Aside0 (kq ≤ k) ∧ Aside0 (Below w.heap.size w w'))
    case atStart => exact ⟨(0), (by first | rfl | (simp; done) | (simp [*]; done) | (simp [isE0, isE1]; done)), H', ⟨Nat.le_refl _⟩, ⟨by repeat (first | (with_reducible first | exact HB.out | apply below_alloc | apply pw_below_drewN | apply below_drew1) | exact HB.out)⟩⟩
    case round =>
      clear H'
      try clear c1
      try clear p2
      try clear c3
      try clear c3b0
      try clear c3b1
      try clear c3b2
      obtain ⟨x5_1, rfl, HA, HK1, HB⟩ := hrel
      cases gk with
      | zero => exact absurd HA.out (by simp [spec_l11SameExprs.l0])
      | succ k1 =>
        have H := HA.out
        clear HA
        simp only [spec_l11SameExprs.l0] at H
        by_cases c4 : x5_1 < (l0.length : Int)
        · rw [if_pos c4] at H
          have c4b0 : decide (x5_1 < (l0.length : Int)) = true := decide_eq_true c4
          clear c4
          by_cases c5 : 0 ≤ x5_1
          · rw [if_pos c5] at H
            have c5b0 : decide (0 ≤ x5_1) = true := decide_eq_true c5
            clear c5
            by_cases c6 : x5_1 < (l1.length : Int)
            · rw [if_pos c6] at H
              have c6b0 : decide (x5_1 < (l1.length : Int)) = true := decide_eq_true c6
              clear c6
              by_cases c7 : (((rd_T26 l0 x5_1).f0).length : Int) = (((rd_T26 l1 x5_1).f0).length : Int)
              · rw [if_pos c7] at H
                have c7b0 : ((((rd_T26 l0 x5_1).f0).length : Int) == (((rd_T26 l1 x5_1).f0).length : Int)) = true := beq_iff_eq.mpr c7
                have c7b1 : ((((rd_T26 l0 x5_1).f0).length : Int) != (((rd_T26 l1 x5_1).f0).length : Int)) = false := bne_eq_false_iff_eq.mpr c7
                have c7b2 : (((rd_T26 l0 x5_1).f0).length == ((rd_T26 l1 x5_1).f0).length) = true := by first | simpa using c7 | (simp at c7 ⊢; omega)
                clear c7
                have H' := Aside0.mk H
                clear H
                have p127 : 0 ≤ (x5_1 : Int) := oa
                have q127 : x5_1 < (l0.length : Int) := oa
                obtain ⟨ad127, A127_0, c127_0, e127, hx127_0, hl127_0, hi127_0⟩ := at_T26 HR0.out x5_1 p127 q127
                cases e127
                replace hx127_0 := hbc HB.out hx127_0
                have HR127_0 := Aside0.mk hi127_0
                have HC127_0 := Aside0.mk hl127_0
                clear hi127_0 hl127_0
                replace p127 := eq_true p127
                replace q127 := eq_true q127
                have p128 : 0 ≤ (x5_1 : Int) := oa
                have q128 : x5_1 < (l1.length : Int) := oa
                obtain ⟨ad128, A128_0, c128_0, e128, hx128_0, hl128_0, hi128_0⟩ := at_T26 HR1.out x5_1 p128 q128
                cases e128
                replace hx128_0 := hbc HB.out hx128_0
                have HR128_0 := Aside0.mk hi128_0
                have HC128_0 := Aside0.mk hl128_0
                clear hi128_0 hl128_0
                replace p128 := eq_true p128
                replace q128 := eq_true q128
                go_wp2
                repeat (go_quiet (fail); try go_wp2)
                go_loopg [6] k1 (fun kq v6 w' => ∃ (x6_2 : Int), v6 = .int .i64 x6_2 ∧ Aside0 (spec_l11SameExprs.l1 kq l0 l1 x5_1 x6_2 = some r) ∧ Aside0 (kq ≤ k1) ∧ Aside0 (Below w.heap.size w w'))
                case atStart => exact ⟨(0), (by first | rfl | (simp; done) | (simp [*]; done) | (simp [isE0, isE1]; done)), H', ⟨Nat.le_refl _⟩, ⟨by repeat (first | (with_reducible first | exact HB.out | apply below_alloc | apply pw_below_drewN | apply below_drew1) | exact HB.out)⟩⟩
                case round =>
                  clear H'
                  try clear c1
                  try clear p1
                  try clear q1
                  try clear hx1
                  try clear p2
                  try clear c3
                  try clear c3b0
                  try clear c3b1
                  try clear c3b2
                  try clear c4
                  try clear c4b0
                  try clear c5
                  try clear c5b0
                  try clear c6
                  try clear c6b0
                  try clear c7
                  try clear c7b0
                  try clear c7b1
                  try clear c7b2
                  try clear hx127_0
                  try clear hx128_0
                  try clear p127
                  try clear p128
                  try clear p2
                  try clear q127
                  try clear q128
                  obtain ⟨x6_2, rfl, HA, HK2, HB⟩ := hrel
                  cases gk with
                  | zero => exact absurd HA.out (by simp [spec_l11SameExprs.l1])
                  | succ k2 =>
                    have H := HA.out
                    clear HA
                    simp only [spec_l11SameExprs.l1] at H
                    by_cases c8 : 0 ≤ x5_1
                    · rw [if_pos c8] at H
                      have c8b0 : decide (0 ≤ x5_1) = true := decide_eq_true c8
                      clear c8
                      by_cases c9 : x5_1 < (l0.length : Int)
                      · rw [if_pos c9] at H
                        have c9b0 : decide (x5_1 < (l0.length : Int)) = true := decide_eq_true c9
                        clear c9
                        by_cases c10 : x6_2 < (((rd_T26 l0 x5_1).f0).length : Int)
                        · rw [if_pos c10] at H
                          have c10b0 : decide (x6_2 < (((rd_T26 l0 x5_1).f0).length : Int)) = true := decide_eq_true c10
                          clear c10
                          by_cases c11 : 0 ≤ x6_2
                          · rw [if_pos c11] at H
                            have c11b0 : decide (0 ≤ x6_2) = true := decide_eq_true c11
                            clear c11
                            by_cases c12 : x5_1 < (l1.length : Int)
                            · rw [if_pos c12] at H
                              have c12b0 : decide (x5_1 < (l1.length : Int)) = true := decide_eq_true c12
                              clear c12
                              by_cases c13 : x6_2 < (((rd_T26 l1 x5_1).f0).length : Int)
                              · rw [if_pos c13] at H
                                have c13b0 : decide (x6_2 < (((rd_T26 l1 x5_1).f0).length : Int)) = true := decide_eq_true c13
                                clear c13
                                by_cases c14 : ((rd_T32 ((rd_T26 l0 x5_1).f0) x6_2).f0) = ((rd_T32 ((rd_T26 l1 x5_1).f0) x6_2).f0)
                                · rw [if_pos c14] at H
                                  have c14b0 : (((rd_T32 ((rd_T26 l0 x5_1).f0) x6_2).f0) == ((rd_T32 ((rd_T26 l1 x5_1).f0) x6_2).f0)) = true := beq_iff_eq.mpr c14
                                  have c14b1 : (((rd_T32 ((rd_T26 l0 x5_1).f0) x6_2).f0) != ((rd_T32 ((rd_T26 l1 x5_1).f0) x6_2).f0)) = false := bne_eq_false_iff_eq.mpr c14
                                  clear c14
                                  by_cases c15 : ((rd_T32 ((rd_T26 l0 x5_1).f0) x6_2).f1) = ((rd_T32 ((rd_T26 l1 x5_1).f0) x6_2).f1)
                                  · rw [if_pos c15] at H
                                    have c15b0 : (((rd_T32 ((rd_T26 l0 x5_1).f0) x6_2).f1) == ((rd_T32 ((rd_T26 l1 x5_1).f0) x6_2).f1)) = true := beq_iff_eq.mpr c15
                                    have c15b1 : (((rd_T32 ((rd_T26 l0 x5_1).f0) x6_2).f1) != ((rd_T32 ((rd_T26 l1 x5_1).f0) x6_2).f1)) = false := bne_eq_false_iff_eq.mpr c15
                                    clear c15
                                    by_cases c16 : ((rd_T32 ((rd_T26 l0 x5_1).f0) x6_2).f2).toList = ((rd_T32 ((rd_T26 l1 x5_1).f0) x6_2).f2).toList
                                    · rw [if_pos c16] at H
                                      have c16b0 : (((rd_T32 ((rd_T26 l0 x5_1).f0) x6_2).f2).toList == ((rd_T32 ((rd_T26 l1 x5_1).f0) x6_2).f2).toList) = true := beq_iff_eq.mpr c16
                                      have c16b1 : (((rd_T32 ((rd_T26 l0 x5_1).f0) x6_2).f2).toList != ((rd_T32 ((rd_T26 l1 x5_1).f0) x6_2).f2).toList) = false := bne_eq_false_iff_eq.mpr c16
                                      clear c16
                                      replace H := Option.bind_eq_some_iff.mp H
                                      obtain ⟨t136, A170, H⟩ := H
                                      replace H : (if t136 = true then (spec_l11SameExprs.l1 k2 l0 l1 x5_1 (wrap64 (x6_2 + 1))) else (some false)) = some r := H
                                      have A17 := Aside0.mk A170
                                      clear A170
                                      by_cases c18 : t136 = true
                                      · subst c18
                                        have H1 : (spec_l11SameExprs.l1 k2 l0 l1 x5_1 (wrap64 (x6_2 + 1))) = some r := by rw [if_pos rfl] at H; exact H
                                        clear H
                                        have H := H1
                                        clear H1
                                        have H' := Aside0.mk H
                                        clear H
                                        have p129 : 0 ≤ (x5_1 : Int) := oa
                                        have q129 : x5_1 < (l0.length : Int) := oa
                                        obtain ⟨ad129, A129_0, c129_0, e129, hx129_0, hl129_0, hi129_0⟩ := at_T26 HR0.out x5_1 p129 q129
                                        obtain rfl : ad127 = ad129 := (by injection e129)
                                        replace hx129_0 := hbc HB.out hx129_0
                                        have HR129_0 := Aside0.mk hi129_0
                                        have HC129_0 := Aside0.mk hl129_0
                                        clear hi129_0 hl129_0
                                        replace p129 := eq_true p129
                                        replace q129 := eq_true q129
                                        have p130 : 0 ≤ (x5_1 : Int) := oa
                                        have q130 : x5_1 < (l0.length : Int) := oa
                                        obtain ⟨ad130, A130_0, c130_0, e130, hx130_0, hl130_0, hi130_0⟩ := at_T26 HR0.out x5_1 p130 q130
                                        obtain rfl : ad127 = ad130 := (by injection e130)
                                        replace hx130_0 := hbc HB.out hx130_0
                                        have HR130_0 := Aside0.mk hi130_0
                                        have HC130_0 := Aside0.mk hl130_0
                                        clear hi130_0 hl130_0
                                        replace p130 := eq_true p130
                                        replace q130 := eq_true q130
                                        have ea_ := Option.some.inj (hx129_0.symm.trans hx130_0)
                                        injection ea_ with ea_ en_ ec_
                                        subst ea_
                                        subst ec_
                                        clear en_
                                        have p131 : 0 ≤ (x6_2 : Int) := oa
                                        have q131 : x6_2 < (((rd_T26 l0 x5_1).f0).length : Int) := oa
                                        obtain ⟨ad131, A131_3, c131_3, e131, hx131_0, hx131_1, hx131_2, hx131_3, hl131_3, hi131_3⟩ := at_T32 HR130_0.out x6_2 p131 q131
                                        cases e131
                                        replace hx131_0 := hbc HB.out hx131_0
                                        replace hx131_1 := hbc HB.out hx131_1
                                        replace hx131_2 := hbc HB.out hx131_2
                                        replace hx131_3 := hbc HB.out hx131_3
                                        have HR131_3 := Aside0.mk hi131_3
                                        have HC131_3 := Aside0.mk hl131_3
                                        clear hi131_3 hl131_3
                                        replace p131 := eq_true p131
                                        replace q131 := eq_true q131
                                        go_wp2_with (first | ((with_reducible refine gate_dst (N := 7) rfl ?_); refine box_event ?hg (N := 7) ?hd (cs := #[.int .i64 0, .int .i64 0, .string (⟨#[]⟩ : ByteArray), .slice none 0 0]) (t := 32) ?hr ?_; (case hd => rfl); (case hg => rfl); (case hr => first | (go_simp; done) | (go_simp; rfl)); intro gb132 hg w19 hbox hb; have n0_ := Aside0.mk (below_step bw hb); have n1_ := Aside0.mk (hbox); have n2_ := Aside0.mk ((bz bw hg : w.heap.size ≤ gb132)); have n3_ := Aside0.mk ((bz bw hg : w.heap.size ≤ gb132)); clear HB; have HB := n0_; have BK132 := n1_; have GW132 := n2_; have GE132 := n3_; clear n0_ n1_ n2_ n3_; clear hb hbox hg; obtain ⟨hcz20_0, hcz20_1, hcz20_2, hcz20_3, hfz20_0, hfz20_1, hfz20_2, hfz20_3⟩ := bc4 BK132.out; have p133 : 0 ≤ (x5_1 : Int) := oa; have q133 : x5_1 < (l1.length : Int) := oa; obtain ⟨ad133, A133_0, c133_0, e133, hx133_0, hl133_0, hi133_0⟩ := at_T26 HR1.out x5_1 p133 q133; obtain rfl : ad128 = ad133 := (by injection e133); have hn133_0 : ad128.block ≠ gb132 := (by first | exact bn hx133_0 GW132.out | exact bm hx133_0 GW132.out); have hn133_1 : ad128.block ≠ gb132 := (by first | exact bn hx133_0 GW132.out | exact bm hx133_0 GW132.out); have hn133_2 : ad128.block ≠ gb132 := (by first | exact bn hx133_0 GW132.out | exact bm hx133_0 GW132.out); have hn133_3 : ad128.block ≠ gb132 := (by first | exact bn hx133_0 GW132.out | exact bm hx133_0 GW132.out); replace hx133_0 := hbc HB.out hx133_0; have HR133_0 := Aside0.mk hi133_0; have HC133_0 := Aside0.mk hl133_0; clear hi133_0 hl133_0; replace hx133_0 := fx ⟨gb132, 0, none⟩ (.int .i64 ((rd_T32 ((rd_T26 l0 x5_1).f0) x6_2).f0)) hx133_0; replace hx133_0 := fx ⟨gb132, 1, none⟩ (.int .i64 ((rd_T32 ((rd_T26 l0 x5_1).f0) x6_2).f1)) hx133_0; replace hx133_0 := fx ⟨gb132, 2, none⟩ (.string ((rd_T32 ((rd_T26 l0 x5_1).f0) x6_2).f2)) hx133_0; replace hx133_0 := fx ⟨gb132, 3, none⟩ (.slice A131_3 ((rd_T32 ((rd_T26 l0 x5_1).f0) x6_2).f3).length c131_3) hx133_0; (try have hy133_0 := dn4 hx133_0); clear hn133_0; clear hn133_1; clear hn133_2; clear hn133_3; replace p133 := eq_true p133; replace q133 := eq_true q133; have p134 : 0 ≤ (x6_2 : Int) := oa; have q134 : x6_2 < (((rd_T26 l1 x5_1).f0).length : Int) := oa; obtain ⟨ad134, A134_3, c134_3, e134, hx134_0, hx134_1, hx134_2, hx134_3, hl134_3, hi134_3⟩ := at_T32 HR133_0.out x6_2 p134 q134; cases e134; have hn134_0 : ad134.block ≠ gb132 := (by first | exact bn hx134_0 GW132.out | exact bm hx134_0 GW132.out); have hn134_1 : ad134.block ≠ gb132 := (by first | exact bn hx134_0 GW132.out | exact bm hx134_0 GW132.out); have hn134_2 : ad134.block ≠ gb132 := (by first | exact bn hx134_0 GW132.out | exact bm hx134_0 GW132.out); have hn134_3 : ad134.block ≠ gb132 := (by first | exact bn hx134_0 GW132.out | exact bm hx134_0 GW132.out); replace hx134_0 := hbc HB.out hx134_0; replace hx134_1 := hbc HB.out hx134_1; replace hx134_2 := hbc HB.out hx134_2; replace hx134_3 := hbc HB.out hx134_3; have HR134_3 := Aside0.mk hi134_3; have HC134_3 := Aside0.mk hl134_3; clear hi134_3 hl134_3; replace hx134_0 := fx ⟨gb132, 0, none⟩ (.int .i64 ((rd_T32 ((rd_T26 l0 x5_1).f0) x6_2).f0)) hx134_0; replace hx134_1 := fx ⟨gb132, 0, none⟩ (.int .i64 ((rd_T32 ((rd_T26 l0 x5_1).f0) x6_2).f0)) hx134_1; replace hx134_2 := fx ⟨gb132, 0, none⟩ (.int .i64 ((rd_T32 ((rd_T26 l0 x5_1).f0) x6_2).f0)) hx134_2; replace hx134_3 := fx ⟨gb132, 0, none⟩ (.int .i64 ((rd_T32 ((rd_T26 l0 x5_1).f0) x6_2).f0)) hx134_3; replace hx134_0 := fx ⟨gb132, 1, none⟩ (.int .i64 ((rd_T32 ((rd_T26 l0 x5_1).f0) x6_2).f1)) hx134_0; replace hx134_1 := fx ⟨gb132, 1, none⟩ (.int .i64 ((rd_T32 ((rd_T26 l0 x5_1).f0) x6_2).f1)) hx134_1; replace hx134_2 := fx ⟨gb132, 1, none⟩ (.int .i64 ((rd_T32 ((rd_T26 l0 x5_1).f0) x6_2).f1)) hx134_2; replace hx134_3 := fx ⟨gb132, 1, none⟩ (.int .i64 ((rd_T32 ((rd_T26 l0 x5_1).f0) x6_2).f1)) hx134_3; replace hx134_0 := fx ⟨gb132, 2, none⟩ (.string ((rd_T32 ((rd_T26 l0 x5_1).f0) x6_2).f2)) hx134_0; replace hx134_1 := fx ⟨gb132, 2, none⟩ (.string ((rd_T32 ((rd_T26 l0 x5_1).f0) x6_2).f2)) hx134_1; replace hx134_2 := fx ⟨gb132, 2, none⟩ (.string ((rd_T32 ((rd_T26 l0 x5_1).f0) x6_2).f2)) hx134_2; replace hx134_3 := fx ⟨gb132, 2, none⟩ (.string ((rd_T32 ((rd_T26 l0 x5_1).f0) x6_2).f2)) hx134_3; replace hx134_0 := fx ⟨gb132, 3, none⟩ (.slice A131_3 ((rd_T32 ((rd_T26 l0 x5_1).f0) x6_2).f3).length c131_3) hx134_0; replace hx134_1 := fx ⟨gb132, 3, none⟩ (.slice A131_3 ((rd_T32 ((rd_T26 l0 x5_1).f0) x6_2).f3).length c131_3) hx134_1; replace hx134_2 := fx ⟨gb132, 3, none⟩ (.slice A131_3 ((rd_T32 ((rd_T26 l0 x5_1).f0) x6_2).f3).length c131_3) hx134_2; replace hx134_3 := fx ⟨gb132, 3, none⟩ (.slice A131_3 ((rd_T32 ((rd_T26 l0 x5_1).f0) x6_2).f3).length c131_3) hx134_3; (try have hy134_0 := dn4 hx134_0); (try have hy134_1 := dn4 hx134_1); (try have hy134_2 := dn4 hx134_2); (try have hy134_3 := dn4 hx134_3); clear hn134_0; clear hn134_1; clear hn134_2; clear hn134_3; replace p134 := eq_true p134; replace q134 := eq_true q134) | ((with_reducible refine gate_dst (N := 8) rfl ?_); refine box_event ?hg (N := 8) ?hd (cs := #[.int .i64 0, .int .i64 0, .string (⟨#[]⟩ : ByteArray), .slice none 0 0]) (t := 32) ?hr ?_; (case hd => rfl); (case hg => rfl); (case hr => first | (go_simp; done) | (go_simp; rfl)); intro gb135 hg w21 hbox hb; have n0_ := Aside0.mk (blk_below (g := gb132) (o := .cells #[.int .i64 ((rd_T32 ((rd_T26 l0 x5_1).f0) x6_2).f0), .int .i64 ((rd_T32 ((rd_T26 l0 x5_1).f0) x6_2).f1), .string ((rd_T32 ((rd_T26 l0 x5_1).f0) x6_2).f2), .slice A131_3 ((rd_T32 ((rd_T26 l0 x5_1).f0) x6_2).f3).length c131_3] 32 (0, 0)) bx hb); have n1_ := Aside0.mk (below_step bw hb); have n2_ := Aside0.mk (hbox); have n3_ := Aside0.mk ((bz bw hg : w.heap.size ≤ gb135)); have n4_ := Aside0.mk ((bz bw hg : w.heap.size ≤ gb135)); have n5_ := Aside0.mk ((bl bx hg : gb132 ≠ gb135)); have n6_ := Aside0.mk ((bl' bx hg : gb135 ≠ gb132)); clear BK132; clear HB; have BK132 := n0_; have HB := n1_; have BK135 := n2_; have GW135 := n3_; have GE135 := n4_; have NB132_135 := n5_; have NB135_132 := n6_; clear n0_ n1_ n2_ n3_ n4_ n5_ n6_; clear hb hbox hg; have hnb22 := NB135_132.out; have hnc22 := NB132_135.out; obtain ⟨hcz23_0, hcz23_1, hcz23_2, hcz23_3, hfz23_0, hfz23_1, hfz23_2, hfz23_3⟩ := bc4 BK135.out; obtain ⟨hcz24_0, hcz24_1, hcz24_2, hcz24_3, hfz24_0, hfz24_1, hfz24_2, hfz24_3⟩ := bc4 BK132.out) | (go_at_call 100; (with_reducible refine (spec_l07SameInts.calls k2 _ _ ((rd_T32 ((rd_T26 l0 x5_1).f0) x6_2).f3) _ _ ((rd_T32 ((rd_T26 l1 x5_1).f0) x6_2).f3) true _ ?side1 ?side2 ?side3 ?side4 A17.out).mono ?_); (case side1 => exact Kd.C_below HR131_3.out bw); (case side2 => exact HC131_3.out); (case side3 => exact Kd.C_below HR134_3.out bw); (case side4 => exact HC134_3.out); rintro e w' ⟨rfl, ⟨nd, rfl⟩⟩; (try first | exact ⟨rfl, _, World.drewN_drewN _ _ _⟩ | exact ⟨rfl, _, Eq.trans (World.drewN_drewN _ _ _) (congrArg (World.drewN _) (Nat.add_assoc _ _ _))⟩)))
                                        repeat (go_quiet (fail); try go_wp2_with (fail))
                                        go_roundg k2
                                        case measure => have := HK1.out; have := HK2.out; omega
                                        case rel => exact ⟨(wrap64 (x6_2 + 1)), (by first | rfl | (simp; done) | (simp [*]; done) | (simp [isE0, isE1]; done)), H', ⟨by have := HK1.out; have := HK2.out; omega⟩, ⟨by repeat (first | (with_reducible first | exact HB.out | apply below_alloc | apply pw_below_drewN | apply below_drew1 | refine below_set ?_ GE132.out | refine below_set ?_ GE135.out) | exact HB.out)⟩⟩
                                      · replace c18 := Bool.eq_false_iff.mpr c18
                                        subst c18
                                        have H1 : (some false) = some r := by rw [if_neg (show ¬ (false = true) by decide)] at H; exact H
                                        clear H
                                        have H := H1
                                        clear H1
                                        obtain rfl := Option.some.inj H
                                        have p129 : 0 ≤ (x5_1 : Int) := oa
                                        have q129 : x5_1 < (l0.length : Int) := oa
                                        obtain ⟨ad129, A129_0, c129_0, e129, hx129_0, hl129_0, hi129_0⟩ := at_T26 HR0.out x5_1 p129 q129
                                        obtain rfl : ad127 = ad129 := (by injection e129)
                                        replace hx129_0 := hbc HB.out hx129_0
                                        have HR129_0 := Aside0.mk hi129_0
                                        have HC129_0 := Aside0.mk hl129_0
                                        clear hi129_0 hl129_0
                                        replace p129 := eq_true p129
                                        replace q129 := eq_true q129
                                        have p130 : 0 ≤ (x5_1 : Int) := oa
                                        have q130 : x5_1 < (l0.length : Int) := oa
                                        obtain ⟨ad130, A130_0, c130_0, e130, hx130_0, hl130_0, hi130_0⟩ := at_T26 HR0.out x5_1 p130 q130
                                        obtain rfl : ad127 = ad130 := (by injection e130)
                                        replace hx130_0 := hbc HB.out hx130_0
                                        have HR130_0 := Aside0.mk hi130_0
                                        have HC130_0 := Aside0.mk hl130_0
                                        clear hi130_0 hl130_0
                                        replace p130 := eq_true p130
                                        replace q130 := eq_true q130
                                        have ea_ := Option.some.inj (hx129_0.symm.trans hx130_0)
                                        injection ea_ with ea_ en_ ec_
                                        subst ea_
                                        subst ec_
                                        clear en_
                                        have p131 : 0 ≤ (x6_2 : Int) := oa
                                        have q131 : x6_2 < (((rd_T26 l0 x5_1).f0).length : Int) := oa
                                        obtain ⟨ad131, A131_3, c131_3, e131, hx131_0, hx131_1, hx131_2, hx131_3, hl131_3, hi131_3⟩ := at_T32 HR130_0.out x6_2 p131 q131
                                        cases e131
                                        replace hx131_0 := hbc HB.out hx131_0
                                        replace hx131_1 := hbc HB.out hx131_1
                                        replace hx131_2 := hbc HB.out hx131_2
                                        replace hx131_3 := hbc HB.out hx131_3
                                        have HR131_3 := Aside0.mk hi131_3
                                        have HC131_3 := Aside0.mk hl131_3
                                        clear hi131_3 hl131_3
                                        replace p131 := eq_true p131
                                        replace q131 := eq_true q131
                                        go_wp2_with (first | ((with_reducible refine gate_dst (N := 7) rfl ?_); refine box_event ?hg (N := 7) ?hd (cs := #[.int .i64 0, .int .i64 0, .string (⟨#[]⟩ : ByteArray), .slice none 0 0]) (t := 32) ?hr ?_; (case hd => rfl); (case hg => rfl); (case hr => first | (go_simp; done) | (go_simp; rfl)); intro gb132 hg w25 hbox hb; have n0_ := Aside0.mk (below_step bw hb); have n1_ := Aside0.mk (hbox); have n2_ := Aside0.mk ((bz bw hg : w.heap.size ≤ gb132)); have n3_ := Aside0.mk ((bz bw hg : w.heap.size ≤ gb132)); clear HB; have HB := n0_; have BK132 := n1_; have GW132 := n2_; have GE132 := n3_; clear n0_ n1_ n2_ n3_; clear hb hbox hg; obtain ⟨hcz26_0, hcz26_1, hcz26_2, hcz26_3, hfz26_0, hfz26_1, hfz26_2, hfz26_3⟩ := bc4 BK132.out; have p133 : 0 ≤ (x5_1 : Int) := oa; have q133 : x5_1 < (l1.length : Int) := oa; obtain ⟨ad133, A133_0, c133_0, e133, hx133_0, hl133_0, hi133_0⟩ := at_T26 HR1.out x5_1 p133 q133; obtain rfl : ad128 = ad133 := (by injection e133); have hn133_0 : ad128.block ≠ gb132 := (by first | exact bn hx133_0 GW132.out | exact bm hx133_0 GW132.out); have hn133_1 : ad128.block ≠ gb132 := (by first | exact bn hx133_0 GW132.out | exact bm hx133_0 GW132.out); have hn133_2 : ad128.block ≠ gb132 := (by first | exact bn hx133_0 GW132.out | exact bm hx133_0 GW132.out); have hn133_3 : ad128.block ≠ gb132 := (by first | exact bn hx133_0 GW132.out | exact bm hx133_0 GW132.out); replace hx133_0 := hbc HB.out hx133_0; have HR133_0 := Aside0.mk hi133_0; have HC133_0 := Aside0.mk hl133_0; clear hi133_0 hl133_0; replace hx133_0 := fx ⟨gb132, 0, none⟩ (.int .i64 ((rd_T32 ((rd_T26 l0 x5_1).f0) x6_2).f0)) hx133_0; replace hx133_0 := fx ⟨gb132, 1, none⟩ (.int .i64 ((rd_T32 ((rd_T26 l0 x5_1).f0) x6_2).f1)) hx133_0; replace hx133_0 := fx ⟨gb132, 2, none⟩ (.string ((rd_T32 ((rd_T26 l0 x5_1).f0) x6_2).f2)) hx133_0; replace hx133_0 := fx ⟨gb132, 3, none⟩ (.slice A131_3 ((rd_T32 ((rd_T26 l0 x5_1).f0) x6_2).f3).length c131_3) hx133_0; (try have hy133_0 := dn4 hx133_0); clear hn133_0; clear hn133_1; clear hn133_2; clear hn133_3; replace p133 := eq_true p133; replace q133 := eq_true q133; have p134 : 0 ≤ (x6_2 : Int) := oa; have q134 : x6_2 < (((rd_T26 l1 x5_1).f0).length : Int) := oa; obtain ⟨ad134, A134_3, c134_3, e134, hx134_0, hx134_1, hx134_2, hx134_3, hl134_3, hi134_3⟩ := at_T32 HR133_0.out x6_2 p134 q134; cases e134; have hn134_0 : ad134.block ≠ gb132 := (by first | exact bn hx134_0 GW132.out | exact bm hx134_0 GW132.out); have hn134_1 : ad134.block ≠ gb132 := (by first | exact bn hx134_0 GW132.out | exact bm hx134_0 GW132.out); have hn134_2 : ad134.block ≠ gb132 := (by first | exact bn hx134_0 GW132.out | exact bm hx134_0 GW132.out); have hn134_3 : ad134.block ≠ gb132 := (by first | exact bn hx134_0 GW132.out | exact bm hx134_0 GW132.out); replace hx134_0 := hbc HB.out hx134_0; replace hx134_1 := hbc HB.out hx134_1; replace hx134_2 := hbc HB.out hx134_2; replace hx134_3 := hbc HB.out hx134_3; have HR134_3 := Aside0.mk hi134_3; have HC134_3 := Aside0.mk hl134_3; clear hi134_3 hl134_3; replace hx134_0 := fx ⟨gb132, 0, none⟩ (.int .i64 ((rd_T32 ((rd_T26 l0 x5_1).f0) x6_2).f0)) hx134_0; replace hx134_1 := fx ⟨gb132, 0, none⟩ (.int .i64 ((rd_T32 ((rd_T26 l0 x5_1).f0) x6_2).f0)) hx134_1; replace hx134_2 := fx ⟨gb132, 0, none⟩ (.int .i64 ((rd_T32 ((rd_T26 l0 x5_1).f0) x6_2).f0)) hx134_2; replace hx134_3 := fx ⟨gb132, 0, none⟩ (.int .i64 ((rd_T32 ((rd_T26 l0 x5_1).f0) x6_2).f0)) hx134_3; replace hx134_0 := fx ⟨gb132, 1, none⟩ (.int .i64 ((rd_T32 ((rd_T26 l0 x5_1).f0) x6_2).f1)) hx134_0; replace hx134_1 := fx ⟨gb132, 1, none⟩ (.int .i64 ((rd_T32 ((rd_T26 l0 x5_1).f0) x6_2).f1)) hx134_1; replace hx134_2 := fx ⟨gb132, 1, none⟩ (.int .i64 ((rd_T32 ((rd_T26 l0 x5_1).f0) x6_2).f1)) hx134_2; replace hx134_3 := fx ⟨gb132, 1, none⟩ (.int .i64 ((rd_T32 ((rd_T26 l0 x5_1).f0) x6_2).f1)) hx134_3; replace hx134_0 := fx ⟨gb132, 2, none⟩ (.string ((rd_T32 ((rd_T26 l0 x5_1).f0) x6_2).f2)) hx134_0; replace hx134_1 := fx ⟨gb132, 2, none⟩ (.string ((rd_T32 ((rd_T26 l0 x5_1).f0) x6_2).f2)) hx134_1; replace hx134_2 := fx ⟨gb132, 2, none⟩ (.string ((rd_T32 ((rd_T26 l0 x5_1).f0) x6_2).f2)) hx134_2; replace hx134_3 := fx ⟨gb132, 2, none⟩ (.string ((rd_T32 ((rd_T26 l0 x5_1).f0) x6_2).f2)) hx134_3; replace hx134_0 := fx ⟨gb132, 3, none⟩ (.slice A131_3 ((rd_T32 ((rd_T26 l0 x5_1).f0) x6_2).f3).length c131_3) hx134_0; replace hx134_1 := fx ⟨gb132, 3, none⟩ (.slice A131_3 ((rd_T32 ((rd_T26 l0 x5_1).f0) x6_2).f3).length c131_3) hx134_1; replace hx134_2 := fx ⟨gb132, 3, none⟩ (.slice A131_3 ((rd_T32 ((rd_T26 l0 x5_1).f0) x6_2).f3).length c131_3) hx134_2; replace hx134_3 := fx ⟨gb132, 3, none⟩ (.slice A131_3 ((rd_T32 ((rd_T26 l0 x5_1).f0) x6_2).f3).length c131_3) hx134_3; (try have hy134_0 := dn4 hx134_0); (try have hy134_1 := dn4 hx134_1); (try have hy134_2 := dn4 hx134_2); (try have hy134_3 := dn4 hx134_3); clear hn134_0; clear hn134_1; clear hn134_2; clear hn134_3; replace p134 := eq_true p134; replace q134 := eq_true q134) | ((with_reducible refine gate_dst (N := 8) rfl ?_); refine box_event ?hg (N := 8) ?hd (cs := #[.int .i64 0, .int .i64 0, .string (⟨#[]⟩ : ByteArray), .slice none 0 0]) (t := 32) ?hr ?_; (case hd => rfl); (case hg => rfl); (case hr => first | (go_simp; done) | (go_simp; rfl)); intro gb135 hg w27 hbox hb; have n0_ := Aside0.mk (blk_below (g := gb132) (o := .cells #[.int .i64 ((rd_T32 ((rd_T26 l0 x5_1).f0) x6_2).f0), .int .i64 ((rd_T32 ((rd_T26 l0 x5_1).f0) x6_2).f1), .string ((rd_T32 ((rd_T26 l0 x5_1).f0) x6_2).f2), .slice A131_3 ((rd_T32 ((rd_T26 l0 x5_1).f0) x6_2).f3).length c131_3] 32 (0, 0)) bx hb); have n1_ := Aside0.mk (below_step bw hb); have n2_ := Aside0.mk (hbox); have n3_ := Aside0.mk ((bz bw hg : w.heap.size ≤ gb135)); have n4_ := Aside0.mk ((bz bw hg : w.heap.size ≤ gb135)); have n5_ := Aside0.mk ((bl bx hg : gb132 ≠ gb135)); have n6_ := Aside0.mk ((bl' bx hg : gb135 ≠ gb132)); clear BK132; clear HB; have BK132 := n0_; have HB := n1_; have BK135 := n2_; have GW135 := n3_; have GE135 := n4_; have NB132_135 := n5_; have NB135_132 := n6_; clear n0_ n1_ n2_ n3_ n4_ n5_ n6_; clear hb hbox hg; have hnb28 := NB135_132.out; have hnc28 := NB132_135.out; obtain ⟨hcz29_0, hcz29_1, hcz29_2, hcz29_3, hfz29_0, hfz29_1, hfz29_2, hfz29_3⟩ := bc4 BK135.out; obtain ⟨hcz30_0, hcz30_1, hcz30_2, hcz30_3, hfz30_0, hfz30_1, hfz30_2, hfz30_3⟩ := bc4 BK132.out) | (go_at_call 100; (with_reducible refine (spec_l07SameInts.calls k2 _ _ ((rd_T32 ((rd_T26 l0 x5_1).f0) x6_2).f3) _ _ ((rd_T32 ((rd_T26 l1 x5_1).f0) x6_2).f3) false _ ?side1 ?side2 ?side3 ?side4 A17.out).mono ?_); (case side1 => exact Kd.C_below HR131_3.out bw); (case side2 => exact HC131_3.out); (case side3 => exact Kd.C_below HR134_3.out bw); (case side4 => exact HC134_3.out); rintro e w' ⟨rfl, ⟨nd, rfl⟩⟩; (try first | exact ⟨rfl, _, World.drewN_drewN _ _ _⟩ | exact ⟨rfl, _, Eq.trans (World.drewN_drewN _ _ _) (congrArg (World.drewN _) (Nat.add_assoc _ _ _))⟩)))
                                        repeat (go_quiet (fail); try go_wp2_with (fail))
                                        go_ret
                                        exact ⟨by first | rfl | (simp [errW_none, errW_some] <;> rfl) | (simp [*, errW_none, errW_some] <;> rfl), by repeat (first | (with_reducible first | exact HB.out | apply below_alloc | apply pw_below_drewN | apply below_drew1 | refine below_set ?_ GE132.out | refine below_set ?_ GE135.out) | exact HB.out)⟩
                                    · rw [if_neg c16] at H
                                      have c16b0 : (((rd_T32 ((rd_T26 l0 x5_1).f0) x6_2).f2).toList == ((rd_T32 ((rd_T26 l1 x5_1).f0) x6_2).f2).toList) = false := beq_eq_false_iff_ne.mpr c16
                                      have c16b1 : (((rd_T32 ((rd_T26 l0 x5_1).f0) x6_2).f2).toList != ((rd_T32 ((rd_T26 l1 x5_1).f0) x6_2).f2).toList) = true := bne_iff_ne.mpr c16
                                      obtain rfl := Option.some.inj H
                                      have p129 : 0 ≤ (x5_1 : Int) := oa
                                      have q129 : x5_1 < (l0.length : Int) := oa
                                      obtain ⟨ad129, A129_0, c129_0, e129, hx129_0, hl129_0, hi129_0⟩ := at_T26 HR0.out x5_1 p129 q129
                                      obtain rfl : ad127 = ad129 := (by injection e129)
                                      replace hx129_0 := hbc HB.out hx129_0
                                      have HR129_0 := Aside0.mk hi129_0
                                      have HC129_0 := Aside0.mk hl129_0
                                      clear hi129_0 hl129_0
                                      replace p129 := eq_true p129
                                      replace q129 := eq_true q129
                                      have p130 : 0 ≤ (x5_1 : Int) := oa
                                      have q130 : x5_1 < (l0.length : Int) := oa
                                      obtain ⟨ad130, A130_0, c130_0, e130, hx130_0, hl130_0, hi130_0⟩ := at_T26 HR0.out x5_1 p130 q130
                                      obtain rfl : ad127 = ad130 := (by injection e130)
                                      replace hx130_0 := hbc HB.out hx130_0
                                      have HR130_0 := Aside0.mk hi130_0
                                      have HC130_0 := Aside0.mk hl130_0
                                      clear hi130_0 hl130_0
                                      replace p130 := eq_true p130
                                      replace q130 := eq_true q130
                                      have ea_ := Option.some.inj (hx129_0.symm.trans hx130_0)
                                      injection ea_ with ea_ en_ ec_
                                      subst ea_
                                      subst ec_
                                      clear en_
                                      have p131 : 0 ≤ (x6_2 : Int) := oa
                                      have q131 : x6_2 < (((rd_T26 l0 x5_1).f0).length : Int) := oa
                                      obtain ⟨ad131, A131_3, c131_3, e131, hx131_0, hx131_1, hx131_2, hx131_3, hl131_3, hi131_3⟩ := at_T32 HR130_0.out x6_2 p131 q131
                                      cases e131
                                      replace hx131_0 := hbc HB.out hx131_0
                                      replace hx131_1 := hbc HB.out hx131_1
                                      replace hx131_2 := hbc HB.out hx131_2
                                      replace hx131_3 := hbc HB.out hx131_3
                                      have HR131_3 := Aside0.mk hi131_3
                                      have HC131_3 := Aside0.mk hl131_3
                                      clear hi131_3 hl131_3
                                      replace p131 := eq_true p131
                                      replace q131 := eq_true q131
                                      go_wp2_with (first | ((with_reducible refine gate_dst (N := 7) rfl ?_); refine box_event ?hg (N := 7) ?hd (cs := #[.int .i64 0, .int .i64 0, .string (⟨#[]⟩ : ByteArray), .slice none 0 0]) (t := 32) ?hr ?_; (case hd => rfl); (case hg => rfl); (case hr => first | (go_simp; done) | (go_simp; rfl)); intro gb132 hg w31 hbox hb; have n0_ := Aside0.mk (below_step bw hb); have n1_ := Aside0.mk (hbox); have n2_ := Aside0.mk ((bz bw hg : w.heap.size ≤ gb132)); have n3_ := Aside0.mk ((bz bw hg : w.heap.size ≤ gb132)); clear HB; have HB := n0_; have BK132 := n1_; have GW132 := n2_; have GE132 := n3_; clear n0_ n1_ n2_ n3_; clear hb hbox hg; obtain ⟨hcz32_0, hcz32_1, hcz32_2, hcz32_3, hfz32_0, hfz32_1, hfz32_2, hfz32_3⟩ := bc4 BK132.out; have p133 : 0 ≤ (x5_1 : Int) := oa; have q133 : x5_1 < (l1.length : Int) := oa; obtain ⟨ad133, A133_0, c133_0, e133, hx133_0, hl133_0, hi133_0⟩ := at_T26 HR1.out x5_1 p133 q133; obtain rfl : ad128 = ad133 := (by injection e133); have hn133_0 : ad128.block ≠ gb132 := (by first | exact bn hx133_0 GW132.out | exact bm hx133_0 GW132.out); have hn133_1 : ad128.block ≠ gb132 := (by first | exact bn hx133_0 GW132.out | exact bm hx133_0 GW132.out); have hn133_2 : ad128.block ≠ gb132 := (by first | exact bn hx133_0 GW132.out | exact bm hx133_0 GW132.out); have hn133_3 : ad128.block ≠ gb132 := (by first | exact bn hx133_0 GW132.out | exact bm hx133_0 GW132.out); replace hx133_0 := hbc HB.out hx133_0; have HR133_0 := Aside0.mk hi133_0; have HC133_0 := Aside0.mk hl133_0; clear hi133_0 hl133_0; replace hx133_0 := fx ⟨gb132, 0, none⟩ (.int .i64 ((rd_T32 ((rd_T26 l0 x5_1).f0) x6_2).f0)) hx133_0; replace hx133_0 := fx ⟨gb132, 1, none⟩ (.int .i64 ((rd_T32 ((rd_T26 l0 x5_1).f0) x6_2).f1)) hx133_0; replace hx133_0 := fx ⟨gb132, 2, none⟩ (.string ((rd_T32 ((rd_T26 l0 x5_1).f0) x6_2).f2)) hx133_0; replace hx133_0 := fx ⟨gb132, 3, none⟩ (.slice A131_3 ((rd_T32 ((rd_T26 l0 x5_1).f0) x6_2).f3).length c131_3) hx133_0; (try have hy133_0 := dn4 hx133_0); clear hn133_0; clear hn133_1; clear hn133_2; clear hn133_3; replace p133 := eq_true p133; replace q133 := eq_true q133; have p134 : 0 ≤ (x6_2 : Int) := oa; have q134 : x6_2 < (((rd_T26 l1 x5_1).f0).length : Int) := oa; obtain ⟨ad134, A134_3, c134_3, e134, hx134_0, hx134_1, hx134_2, hx134_3, hl134_3, hi134_3⟩ := at_T32 HR133_0.out x6_2 p134 q134; cases e134; have hn134_0 : ad134.block ≠ gb132 := (by first | exact bn hx134_0 GW132.out | exact bm hx134_0 GW132.out); have hn134_1 : ad134.block ≠ gb132 := (by first | exact bn hx134_0 GW132.out | exact bm hx134_0 GW132.out); have hn134_2 : ad134.block ≠ gb132 := (by first | exact bn hx134_0 GW132.out | exact bm hx134_0 GW132.out); have hn134_3 : ad134.block ≠ gb132 := (by first | exact bn hx134_0 GW132.out | exact bm hx134_0 GW132.out); replace hx134_0 := hbc HB.out hx134_0; replace hx134_1 := hbc HB.out hx134_1; replace hx134_2 := hbc HB.out hx134_2; replace hx134_3 := hbc HB.out hx134_3; have HR134_3 := Aside0.mk hi134_3; have HC134_3 := Aside0.mk hl134_3; clear hi134_3 hl134_3; replace hx134_0 := fx ⟨gb132, 0, none⟩ (.int .i64 ((rd_T32 ((rd_T26 l0 x5_1).f0) x6_2).f0)) hx134_0; replace hx134_1 := fx ⟨gb132, 0, none⟩ (.int .i64 ((rd_T32 ((rd_T26 l0 x5_1).f0) x6_2).f0)) hx134_1; replace hx134_2 := fx ⟨gb132, 0, none⟩ (.int .i64 ((rd_T32 ((rd_T26 l0 x5_1).f0) x6_2).f0)) hx134_2; replace hx134_3 := fx ⟨gb132, 0, none⟩ (.int .i64 ((rd_T32 ((rd_T26 l0 x5_1).f0) x6_2).f0)) hx134_3; replace hx134_0 := fx ⟨gb132, 1, none⟩ (.int .i64 ((rd_T32 ((rd_T26 l0 x5_1).f0) x6_2).f1)) hx134_0; replace hx134_1 := fx ⟨gb132, 1, none⟩ (.int .i64 ((rd_T32 ((rd_T26 l0 x5_1).f0) x6_2).f1)) hx134_1; replace hx134_2 := fx ⟨gb132, 1, none⟩ (.int .i64 ((rd_T32 ((rd_T26 l0 x5_1).f0) x6_2).f1)) hx134_2; replace hx134_3 := fx ⟨gb132, 1, none⟩ (.int .i64 ((rd_T32 ((rd_T26 l0 x5_1).f0) x6_2).f1)) hx134_3; replace hx134_0 := fx ⟨gb132, 2, none⟩ (.string ((rd_T32 ((rd_T26 l0 x5_1).f0) x6_2).f2)) hx134_0; replace hx134_1 := fx ⟨gb132, 2, none⟩ (.string ((rd_T32 ((rd_T26 l0 x5_1).f0) x6_2).f2)) hx134_1; replace hx134_2 := fx ⟨gb132, 2, none⟩ (.string ((rd_T32 ((rd_T26 l0 x5_1).f0) x6_2).f2)) hx134_2; replace hx134_3 := fx ⟨gb132, 2, none⟩ (.string ((rd_T32 ((rd_T26 l0 x5_1).f0) x6_2).f2)) hx134_3; replace hx134_0 := fx ⟨gb132, 3, none⟩ (.slice A131_3 ((rd_T32 ((rd_T26 l0 x5_1).f0) x6_2).f3).length c131_3) hx134_0; replace hx134_1 := fx ⟨gb132, 3, none⟩ (.slice A131_3 ((rd_T32 ((rd_T26 l0 x5_1).f0) x6_2).f3).length c131_3) hx134_1; replace hx134_2 := fx ⟨gb132, 3, none⟩ (.slice A131_3 ((rd_T32 ((rd_T26 l0 x5_1).f0) x6_2).f3).length c131_3) hx134_2; replace hx134_3 := fx ⟨gb132, 3, none⟩ (.slice A131_3 ((rd_T32 ((rd_T26 l0 x5_1).f0) x6_2).f3).length c131_3) hx134_3; (try have hy134_0 := dn4 hx134_0); (try have hy134_1 := dn4 hx134_1); (try have hy134_2 := dn4 hx134_2); (try have hy134_3 := dn4 hx134_3); clear hn134_0; clear hn134_1; clear hn134_2; clear hn134_3; replace p134 := eq_true p134; replace q134 := eq_true q134) | ((with_reducible refine gate_dst (N := 8) rfl ?_); refine box_event ?hg (N := 8) ?hd (cs := #[.int .i64 0, .int .i64 0, .string (⟨#[]⟩ : ByteArray), .slice none 0 0]) (t := 32) ?hr ?_; (case hd => rfl); (case hg => rfl); (case hr => first | (go_simp; done) | (go_simp; rfl)); intro gb135 hg w33 hbox hb; have n0_ := Aside0.mk (blk_below (g := gb132) (o := .cells #[.int .i64 ((rd_T32 ((rd_T26 l0 x5_1).f0) x6_2).f0), .int .i64 ((rd_T32 ((rd_T26 l0 x5_1).f0) x6_2).f1), .string ((rd_T32 ((rd_T26 l0 x5_1).f0) x6_2).f2), .slice A131_3 ((rd_T32 ((rd_T26 l0 x5_1).f0) x6_2).f3).length c131_3] 32 (0, 0)) bx hb); have n1_ := Aside0.mk (below_step bw hb); have n2_ := Aside0.mk (hbox); have n3_ := Aside0.mk ((bz bw hg : w.heap.size ≤ gb135)); have n4_ := Aside0.mk ((bz bw hg : w.heap.size ≤ gb135)); have n5_ := Aside0.mk ((bl bx hg : gb132 ≠ gb135)); have n6_ := Aside0.mk ((bl' bx hg : gb135 ≠ gb132)); clear BK132; clear HB; have BK132 := n0_; have HB := n1_; have BK135 := n2_; have GW135 := n3_; have GE135 := n4_; have NB132_135 := n5_; have NB135_132 := n6_; clear n0_ n1_ n2_ n3_ n4_ n5_ n6_; clear hb hbox hg; have hnb34 := NB135_132.out; have hnc34 := NB132_135.out; obtain ⟨hcz35_0, hcz35_1, hcz35_2, hcz35_3, hfz35_0, hfz35_1, hfz35_2, hfz35_3⟩ := bc4 BK135.out; obtain ⟨hcz36_0, hcz36_1, hcz36_2, hcz36_3, hfz36_0, hfz36_1, hfz36_2, hfz36_3⟩ := bc4 BK132.out))
                                      repeat (go_quiet (fail); try go_wp2_with (fail))
                                      go_ret
                                      exact ⟨by first | rfl | (simp [errW_none, errW_some] <;> rfl) | (simp [*, errW_none, errW_some] <;> rfl), by repeat (first | (with_reducible first | exact HB.out | apply below_alloc | apply pw_below_drewN | apply below_drew1 | refine below_set ?_ GE132.out | refine below_set ?_ GE135.out) | exact HB.out)⟩
                                  · rw [if_neg c15] at H
                                    have c15b0 : (((rd_T32 ((rd_T26 l0 x5_1).f0) x6_2).f1) == ((rd_T32 ((rd_T26 l1 x5_1).f0) x6_2).f1)) = false := beq_eq_false_iff_ne.mpr c15
                                    have c15b1 : (((rd_T32 ((rd_T26 l0 x5_1).f0) x6_2).f1) != ((rd_T32 ((rd_T26 l1 x5_1).f0) x6_2).f1)) = true := bne_iff_ne.mpr c15
                                    obtain rfl := Option.some.inj H
                                    have p129 : 0 ≤ (x5_1 : Int) := oa
                                    have q129 : x5_1 < (l0.length : Int) := oa
                                    obtain ⟨ad129, A129_0, c129_0, e129, hx129_0, hl129_0, hi129_0⟩ := at_T26 HR0.out x5_1 p129 q129
                                    obtain rfl : ad127 = ad129 := (by injection e129)
                                    replace hx129_0 := hbc HB.out hx129_0
                                    have HR129_0 := Aside0.mk hi129_0
                                    have HC129_0 := Aside0.mk hl129_0
                                    clear hi129_0 hl129_0
                                    replace p129 := eq_true p129
                                    replace q129 := eq_true q129
                                    have p130 : 0 ≤ (x5_1 : Int) := oa
                                    have q130 : x5_1 < (l0.length : Int) := oa
                                    obtain ⟨ad130, A130_0, c130_0, e130, hx130_0, hl130_0, hi130_0⟩ := at_T26 HR0.out x5_1 p130 q130
                                    obtain rfl : ad127 = ad130 := (by injection e130)
                                    replace hx130_0 := hbc HB.out hx130_0
                                    have HR130_0 := Aside0.mk hi130_0
                                    have HC130_0 := Aside0.mk hl130_0
                                    clear hi130_0 hl130_0
                                    replace p130 := eq_true p130
                                    replace q130 := eq_true q130
                                    have ea_ := Option.some.inj (hx129_0.symm.trans hx130_0)
                                    injection ea_ with ea_ en_ ec_
                                    subst ea_
                                    subst ec_
                                    clear en_
                                    have p131 : 0 ≤ (x6_2 : Int) := oa
                                    have q131 : x6_2 < (((rd_T26 l0 x5_1).f0).length : Int) := oa
                                    obtain ⟨ad131, A131_3, c131_3, e131, hx131_0, hx131_1, hx131_2, hx131_3, hl131_3, hi131_3⟩ := at_T32 HR130_0.out x6_2 p131 q131
                                    cases e131
                                    replace hx131_0 := hbc HB.out hx131_0
                                    replace hx131_1 := hbc HB.out hx131_1
                                    replace hx131_2 := hbc HB.out hx131_2
                                    replace hx131_3 := hbc HB.out hx131_3
                                    have HR131_3 := Aside0.mk hi131_3
                                    have HC131_3 := Aside0.mk hl131_3
                                    clear hi131_3 hl131_3
                                    replace p131 := eq_true p131
                                    replace q131 := eq_true q131
                                    go_wp2_with (first | ((with_reducible refine gate_dst (N := 7) rfl ?_); refine box_event ?hg (N := 7) ?hd (cs := #[.int .i64 0, .int .i64 0, .string (⟨#[]⟩ : ByteArray), .slice none 0 0]) (t := 32) ?hr ?_; (case hd => rfl); (case hg => rfl); (case hr => first | (go_simp; done) | (go_simp; rfl)); intro gb132 hg w37 hbox hb; have n0_ := Aside0.mk (below_step bw hb); have n1_ := Aside0.mk (hbox); have n2_ := Aside0.mk ((bz bw hg : w.heap.size ≤ gb132)); have n3_ := Aside0.mk ((bz bw hg : w.heap.size ≤ gb132)); clear HB; have HB := n0_; have BK132 := n1_; have GW132 := n2_; have GE132 := n3_; clear n0_ n1_ n2_ n3_; clear hb hbox hg; obtain ⟨hcz38_0, hcz38_1, hcz38_2, hcz38_3, hfz38_0, hfz38_1, hfz38_2, hfz38_3⟩ := bc4 BK132.out; have p133 : 0 ≤ (x5_1 : Int) := oa; have q133 : x5_1 < (l1.length : Int) := oa; obtain ⟨ad133, A133_0, c133_0, e133, hx133_0, hl133_0, hi133_0⟩ := at_T26 HR1.out x5_1 p133 q133; obtain rfl : ad128 = ad133 := (by injection e133); have hn133_0 : ad128.block ≠ gb132 := (by first | exact bn hx133_0 GW132.out | exact bm hx133_0 GW132.out); have hn133_1 : ad128.block ≠ gb132 := (by first | exact bn hx133_0 GW132.out | exact bm hx133_0 GW132.out); have hn133_2 : ad128.block ≠ gb132 := (by first | exact bn hx133_0 GW132.out | exact bm hx133_0 GW132.out); have hn133_3 : ad128.block ≠ gb132 := (by first | exact bn hx133_0 GW132.out | exact bm hx133_0 GW132.out); replace hx133_0 := hbc HB.out hx133_0; have HR133_0 := Aside0.mk hi133_0; have HC133_0 := Aside0.mk hl133_0; clear hi133_0 hl133_0; replace hx133_0 := fx ⟨gb132, 0, none⟩ (.int .i64 ((rd_T32 ((rd_T26 l0 x5_1).f0) x6_2).f0)) hx133_0; replace hx133_0 := fx ⟨gb132, 1, none⟩ (.int .i64 ((rd_T32 ((rd_T26 l0 x5_1).f0) x6_2).f1)) hx133_0; replace hx133_0 := fx ⟨gb132, 2, none⟩ (.string ((rd_T32 ((rd_T26 l0 x5_1).f0) x6_2).f2)) hx133_0; replace hx133_0 := fx ⟨gb132, 3, none⟩ (.slice A131_3 ((rd_T32 ((rd_T26 l0 x5_1).f0) x6_2).f3).length c131_3) hx133_0; (try have hy133_0 := dn4 hx133_0); clear hn133_0; clear hn133_1; clear hn133_2; clear hn133_3; replace p133 := eq_true p133; replace q133 := eq_true q133; have p134 : 0 ≤ (x6_2 : Int) := oa; have q134 : x6_2 < (((rd_T26 l1 x5_1).f0).length : Int) := oa; obtain ⟨ad134, A134_3, c134_3, e134, hx134_0, hx134_1, hx134_2, hx134_3, hl134_3, hi134_3⟩ := at_T32 HR133_0.out x6_2 p134 q134; cases e134; have hn134_0 : ad134.block ≠ gb132 := (by first | exact bn hx134_0 GW132.out | exact bm hx134_0 GW132.out); have hn134_1 : ad134.block ≠ gb132 := (by first | exact bn hx134_0 GW132.out | exact bm hx134_0 GW132.out); have hn134_2 : ad134.block ≠ gb132 := (by first | exact bn hx134_0 GW132.out | exact bm hx134_0 GW132.out); have hn134_3 : ad134.block ≠ gb132 := (by first | exact bn hx134_0 GW132.out | exact bm hx134_0 GW132.out); replace hx134_0 := hbc HB.out hx134_0; replace hx134_1 := hbc HB.out hx134_1; replace hx134_2 := hbc HB.out hx134_2; replace hx134_3 := hbc HB.out hx134_3; have HR134_3 := Aside0.mk hi134_3; have HC134_3 := Aside0.mk hl134_3; clear hi134_3 hl134_3; replace hx134_0 := fx ⟨gb132, 0, none⟩ (.int .i64 ((rd_T32 ((rd_T26 l0 x5_1).f0) x6_2).f0)) hx134_0; replace hx134_1 := fx ⟨gb132, 0, none⟩ (.int .i64 ((rd_T32 ((rd_T26 l0 x5_1).f0) x6_2).f0)) hx134_1; replace hx134_2 := fx ⟨gb132, 0, none⟩ (.int .i64 ((rd_T32 ((rd_T26 l0 x5_1).f0) x6_2).f0)) hx134_2; replace hx134_3 := fx ⟨gb132, 0, none⟩ (.int .i64 ((rd_T32 ((rd_T26 l0 x5_1).f0) x6_2).f0)) hx134_3; replace hx134_0 := fx ⟨gb132, 1, none⟩ (.int .i64 ((rd_T32 ((rd_T26 l0 x5_1).f0) x6_2).f1)) hx134_0; replace hx134_1 := fx ⟨gb132, 1, none⟩ (.int .i64 ((rd_T32 ((rd_T26 l0 x5_1).f0) x6_2).f1)) hx134_1; replace hx134_2 := fx ⟨gb132, 1, none⟩ (.int .i64 ((rd_T32 ((rd_T26 l0 x5_1).f0) x6_2).f1)) hx134_2; replace hx134_3 := fx ⟨gb132, 1, none⟩ (.int .i64 ((rd_T32 ((rd_T26 l0 x5_1).f0) x6_2).f1)) hx134_3; replace hx134_0 := fx ⟨gb132, 2, none⟩ (.string ((rd_T32 ((rd_T26 l0 x5_1).f0) x6_2).f2)) hx134_0; replace hx134_1 := fx ⟨gb132, 2, none⟩ (.string ((rd_T32 ((rd_T26 l0 x5_1).f0) x6_2).f2)) hx134_1; replace hx134_2 := fx ⟨gb132, 2, none⟩ (.string ((rd_T32 ((rd_T26 l0 x5_1).f0) x6_2).f2)) hx134_2; replace hx134_3 := fx ⟨gb132, 2, none⟩ (.string ((rd_T32 ((rd_T26 l0 x5_1).f0) x6_2).f2)) hx134_3; replace hx134_0 := fx ⟨gb132, 3, none⟩ (.slice A131_3 ((rd_T32 ((rd_T26 l0 x5_1).f0) x6_2).f3).length c131_3) hx134_0; replace hx134_1 := fx ⟨gb132, 3, none⟩ (.slice A131_3 ((rd_T32 ((rd_T26 l0 x5_1).f0) x6_2).f3).length c131_3) hx134_1; replace hx134_2 := fx ⟨gb132, 3, none⟩ (.slice A131_3 ((rd_T32 ((rd_T26 l0 x5_1).f0) x6_2).f3).length c131_3) hx134_2; replace hx134_3 := fx ⟨gb132, 3, none⟩ (.slice A131_3 ((rd_T32 ((rd_T26 l0 x5_1).f0) x6_2).f3).length c131_3) hx134_3; (try have hy134_0 := dn4 hx134_0); (try have hy134_1 := dn4 hx134_1); (try have hy134_2 := dn4 hx134_2); (try have hy134_3 := dn4 hx134_3); clear hn134_0; clear hn134_1; clear hn134_2; clear hn134_3; replace p134 := eq_true p134; replace q134 := eq_true q134) | ((with_reducible refine gate_dst (N := 8) rfl ?_); refine box_event ?hg (N := 8) ?hd (cs := #[.int .i64 0, .int .i64 0, .string (⟨#[]⟩ : ByteArray), .slice none 0 0]) (t := 32) ?hr ?_; (case hd => rfl); (case hg => rfl); (case hr => first | (go_simp; done) | (go_simp; rfl)); intro gb135 hg w39 hbox hb; have n0_ := Aside0.mk (blk_below (g := gb132) (o := .cells #[.int .i64 ((rd_T32 ((rd_T26 l0 x5_1).f0) x6_2).f0), .int .i64 ((rd_T32 ((rd_T26 l0 x5_1).f0) x6_2).f1), .string ((rd_T32 ((rd_T26 l0 x5_1).f0) x6_2).f2), .slice A131_3 ((rd_T32 ((rd_T26 l0 x5_1).f0) x6_2).f3).length c131_3] 32 (0, 0)) bx hb); have n1_ := Aside0.mk (below_step bw hb); have n2_ := Aside0.mk (hbox); have n3_ := Aside0.mk ((bz bw hg : w.heap.size ≤ gb135)); have n4_ := Aside0.mk ((bz bw hg : w.heap.size ≤ gb135)); have n5_ := Aside0.mk ((bl bx hg : gb132 ≠ gb135)); have n6_ := Aside0.mk ((bl' bx hg : gb135 ≠ gb132)); clear BK132; clear HB; have BK132 := n0_; have HB := n1_; have BK135 := n2_; have GW135 := n3_; have GE135 := n4_; have NB132_135 := n5_; have NB135_132 := n6_; clear n0_ n1_ n2_ n3_ n4_ n5_ n6_; clear hb hbox hg; have hnb40 := NB135_132.out; have hnc40 := NB132_135.out; obtain ⟨hcz41_0, hcz41_1, hcz41_2, hcz41_3, hfz41_0, hfz41_1, hfz41_2, hfz41_3⟩ := bc4 BK135.out; obtain ⟨hcz42_0, hcz42_1, hcz42_2, hcz42_3, hfz42_0, hfz42_1, hfz42_2, hfz42_3⟩ := bc4 BK132.out))
                                    repeat (go_quiet (fail); try go_wp2_with (fail))
                                    go_ret
                                    exact ⟨by first | rfl | (simp [errW_none, errW_some] <;> rfl) | (simp [*, errW_none, errW_some] <;> rfl), by repeat (first | (with_reducible first | exact HB.out | apply below_alloc | apply pw_below_drewN | apply below_drew1 | refine below_set ?_ GE132.out | refine below_set ?_ GE135.out) | exact HB.out)⟩
                                · rw [if_neg c14] at H
                                  have c14b0 : (((rd_T32 ((rd_T26 l0 x5_1).f0) x6_2).f0) == ((rd_T32 ((rd_T26 l1 x5_1).f0) x6_2).f0)) = false := beq_eq_false_iff_ne.mpr c14
                                  have c14b1 : (((rd_T32 ((rd_T26 l0 x5_1).f0) x6_2).f0) != ((rd_T32 ((rd_T26 l1 x5_1).f0) x6_2).f0)) = true := bne_iff_ne.mpr c14
                                  obtain rfl := Option.some.inj H
                                  have p129 : 0 ≤ (x5_1 : Int) := oa
                                  have q129 : x5_1 < (l0.length : Int) := oa
                                  obtain ⟨ad129, A129_0, c129_0, e129, hx129_0, hl129_0, hi129_0⟩ := at_T26 HR0.out x5_1 p129 q129
                                  obtain rfl : ad127 = ad129 := (by injection e129)
                                  replace hx129_0 := hbc HB.out hx129_0
                                  have HR129_0 := Aside0.mk hi129_0
                                  have HC129_0 := Aside0.mk hl129_0
                                  clear hi129_0 hl129_0
                                  replace p129 := eq_true p129
                                  replace q129 := eq_true q129
                                  have p130 : 0 ≤ (x5_1 : Int) := oa
                                  have q130 : x5_1 < (l0.length : Int) := oa
                                  obtain ⟨ad130, A130_0, c130_0, e130, hx130_0, hl130_0, hi130_0⟩ := at_T26 HR0.out x5_1 p130 q130
                                  obtain rfl : ad127 = ad130 := (by injection e130)
                                  replace hx130_0 := hbc HB.out hx130_0
                                  have HR130_0 := Aside0.mk hi130_0
                                  have HC130_0 := Aside0.mk hl130_0
                                  clear hi130_0 hl130_0
                                  replace p130 := eq_true p130
                                  replace q130 := eq_true q130
                                  have ea_ := Option.some.inj (hx129_0.symm.trans hx130_0)
                                  injection ea_ with ea_ en_ ec_
                                  subst ea_
                                  subst ec_
                                  clear en_
                                  have p131 : 0 ≤ (x6_2 : Int) := oa
                                  have q131 : x6_2 < (((rd_T26 l0 x5_1).f0).length : Int) := oa
                                  obtain ⟨ad131, A131_3, c131_3, e131, hx131_0, hx131_1, hx131_2, hx131_3, hl131_3, hi131_3⟩ := at_T32 HR130_0.out x6_2 p131 q131
                                  cases e131
                                  replace hx131_0 := hbc HB.out hx131_0
                                  replace hx131_1 := hbc HB.out hx131_1
                                  replace hx131_2 := hbc HB.out hx131_2
                                  replace hx131_3 := hbc HB.out hx131_3
                                  have HR131_3 := Aside0.mk hi131_3
                                  have HC131_3 := Aside0.mk hl131_3
                                  clear hi131_3 hl131_3
                                  replace p131 := eq_true p131
                                  replace q131 := eq_true q131
                                  go_wp2_with (first | ((with_reducible refine gate_dst (N := 7) rfl ?_); refine box_event ?hg (N := 7) ?hd (cs := #[.int .i64 0, .int .i64 0, .string (⟨#[]⟩ : ByteArray), .slice none 0 0]) (t := 32) ?hr ?_; (case hd => rfl); (case hg => rfl); (case hr => first | (go_simp; done) | (go_simp; rfl)); intro gb132 hg w43 hbox hb; have n0_ := Aside0.mk (below_step bw hb); have n1_ := Aside0.mk (hbox); have n2_ := Aside0.mk ((bz bw hg : w.heap.size ≤ gb132)); have n3_ := Aside0.mk ((bz bw hg : w.heap.size ≤ gb132)); clear HB; have HB := n0_; have BK132 := n1_; have GW132 := n2_; have GE132 := n3_; clear n0_ n1_ n2_ n3_; clear hb hbox hg; obtain ⟨hcz44_0, hcz44_1, hcz44_2, hcz44_3, hfz44_0, hfz44_1, hfz44_2, hfz44_3⟩ := bc4 BK132.out; have p133 : 0 ≤ (x5_1 : Int) := oa; have q133 : x5_1 < (l1.length : Int) := oa; obtain ⟨ad133, A133_0, c133_0, e133, hx133_0, hl133_0, hi133_0⟩ := at_T26 HR1.out x5_1 p133 q133; obtain rfl : ad128 = ad133 := (by injection e133); have hn133_0 : ad128.block ≠ gb132 := (by first | exact bn hx133_0 GW132.out | exact bm hx133_0 GW132.out); have hn133_1 : ad128.block ≠ gb132 := (by first | exact bn hx133_0 GW132.out | exact bm hx133_0 GW132.out); have hn133_2 : ad128.block ≠ gb132 := (by first | exact bn hx133_0 GW132.out | exact bm hx133_0 GW132.out); have hn133_3 : ad128.block ≠ gb132 := (by first | exact bn hx133_0 GW132.out | exact bm hx133_0 GW132.out); replace hx133_0 := hbc HB.out hx133_0; have HR133_0 := Aside0.mk hi133_0; have HC133_0 := Aside0.mk hl133_0; clear hi133_0 hl133_0; replace hx133_0 := fx ⟨gb132, 0, none⟩ (.int .i64 ((rd_T32 ((rd_T26 l0 x5_1).f0) x6_2).f0)) hx133_0; replace hx133_0 := fx ⟨gb132, 1, none⟩ (.int .i64 ((rd_T32 ((rd_T26 l0 x5_1).f0) x6_2).f1)) hx133_0; replace hx133_0 := fx ⟨gb132, 2, none⟩ (.string ((rd_T32 ((rd_T26 l0 x5_1).f0) x6_2).f2)) hx133_0; replace hx133_0 := fx ⟨gb132, 3, none⟩ (.slice A131_3 ((rd_T32 ((rd_T26 l0 x5_1).f0) x6_2).f3).length c131_3) hx133_0; (try have hy133_0 := dn4 hx133_0); clear hn133_0; clear hn133_1; clear hn133_2; clear hn133_3; replace p133 := eq_true p133; replace q133 := eq_true q133; have p134 : 0 ≤ (x6_2 : Int) := oa; have q134 : x6_2 < (((rd_T26 l1 x5_1).f0).length : Int) := oa; obtain ⟨ad134, A134_3, c134_3, e134, hx134_0, hx134_1, hx134_2, hx134_3, hl134_3, hi134_3⟩ := at_T32 HR133_0.out x6_2 p134 q134; cases e134; have hn134_0 : ad134.block ≠ gb132 := (by first | exact bn hx134_0 GW132.out | exact bm hx134_0 GW132.out); have hn134_1 : ad134.block ≠ gb132 := (by first | exact bn hx134_0 GW132.out | exact bm hx134_0 GW132.out); have hn134_2 : ad134.block ≠ gb132 := (by first | exact bn hx134_0 GW132.out | exact bm hx134_0 GW132.out); have hn134_3 : ad134.block ≠ gb132 := (by first | exact bn hx134_0 GW132.out | exact bm hx134_0 GW132.out); replace hx134_0 := hbc HB.out hx134_0; replace hx134_1 := hbc HB.out hx134_1; replace hx134_2 := hbc HB.out hx134_2; replace hx134_3 := hbc HB.out hx134_3; have HR134_3 := Aside0.mk hi134_3; have HC134_3 := Aside0.mk hl134_3; clear hi134_3 hl134_3; replace hx134_0 := fx ⟨gb132, 0, none⟩ (.int .i64 ((rd_T32 ((rd_T26 l0 x5_1).f0) x6_2).f0)) hx134_0; replace hx134_1 := fx ⟨gb132, 0, none⟩ (.int .i64 ((rd_T32 ((rd_T26 l0 x5_1).f0) x6_2).f0)) hx134_1; replace hx134_2 := fx ⟨gb132, 0, none⟩ (.int .i64 ((rd_T32 ((rd_T26 l0 x5_1).f0) x6_2).f0)) hx134_2; replace hx134_3 := fx ⟨gb132, 0, none⟩ (.int .i64 ((rd_T32 ((rd_T26 l0 x5_1).f0) x6_2).f0)) hx134_3; replace hx134_0 := fx ⟨gb132, 1, none⟩ (.int .i64 ((rd_T32 ((rd_T26 l0 x5_1).f0) x6_2).f1)) hx134_0; replace hx134_1 := fx ⟨gb132, 1, none⟩ (.int .i64 ((rd_T32 ((rd_T26 l0 x5_1).f0) x6_2).f1)) hx134_1; replace hx134_2 := fx ⟨gb132, 1, none⟩ (.int .i64 ((rd_T32 ((rd_T26 l0 x5_1).f0) x6_2).f1)) hx134_2; replace hx134_3 := fx ⟨gb132, 1, none⟩ (.int .i64 ((rd_T32 ((rd_T26 l0 x5_1).f0) x6_2).f1)) hx134_3; replace hx134_0 := fx ⟨gb132, 2, none⟩ (.string ((rd_T32 ((rd_T26 l0 x5_1).f0) x6_2).f2)) hx134_0; replace hx134_1 := fx ⟨gb132, 2, none⟩ (.string ((rd_T32 ((rd_T26 l0 x5_1).f0) x6_2).f2)) hx134_1; replace hx134_2 := fx ⟨gb132, 2, none⟩ (.string ((rd_T32 ((rd_T26 l0 x5_1).f0) x6_2).f2)) hx134_2; replace hx134_3 := fx ⟨gb132, 2, none⟩ (.string ((rd_T32 ((rd_T26 l0 x5_1).f0) x6_2).f2)) hx134_3; replace hx134_0 := fx ⟨gb132, 3, none⟩ (.slice A131_3 ((rd_T32 ((rd_T26 l0 x5_1).f0) x6_2).f3).length c131_3) hx134_0; replace hx134_1 := fx ⟨gb132, 3, none⟩ (.slice A131_3 ((rd_T32 ((rd_T26 l0 x5_1).f0) x6_2).f3).length c131_3) hx134_1; replace hx134_2 := fx ⟨gb132, 3, none⟩ (.slice A131_3 ((rd_T32 ((rd_T26 l0 x5_1).f0) x6_2).f3).length c131_3) hx134_2; replace hx134_3 := fx ⟨gb132, 3, none⟩ (.slice A131_3 ((rd_T32 ((rd_T26 l0 x5_1).f0) x6_2).f3).length c131_3) hx134_3; (try have hy134_0 := dn4 hx134_0); (try have hy134_1 := dn4 hx134_1); (try have hy134_2 := dn4 hx134_2); (try have hy134_3 := dn4 hx134_3); clear hn134_0; clear hn134_1; clear hn134_2; clear hn134_3; replace p134 := eq_true p134; replace q134 := eq_true q134) | ((with_reducible refine gate_dst (N := 8) rfl ?_); refine box_event ?hg (N := 8) ?hd (cs := #[.int .i64 0, .int .i64 0, .string (⟨#[]⟩ : ByteArray), .slice none 0 0]) (t := 32) ?hr ?_; (case hd => rfl); (case hg => rfl); (case hr => first | (go_simp; done) | (go_simp; rfl)); intro gb135 hg w45 hbox hb; have n0_ := Aside0.mk (blk_below (g := gb132) (o := .cells #[.int .i64 ((rd_T32 ((rd_T26 l0 x5_1).f0) x6_2).f0), .int .i64 ((rd_T32 ((rd_T26 l0 x5_1).f0) x6_2).f1), .string ((rd_T32 ((rd_T26 l0 x5_1).f0) x6_2).f2), .slice A131_3 ((rd_T32 ((rd_T26 l0 x5_1).f0) x6_2).f3).length c131_3] 32 (0, 0)) bx hb); have n1_ := Aside0.mk (below_step bw hb); have n2_ := Aside0.mk (hbox); have n3_ := Aside0.mk ((bz bw hg : w.heap.size ≤ gb135)); have n4_ := Aside0.mk ((bz bw hg : w.heap.size ≤ gb135)); have n5_ := Aside0.mk ((bl bx hg : gb132 ≠ gb135)); have n6_ := Aside0.mk ((bl' bx hg : gb135 ≠ gb132)); clear BK132; clear HB; have BK132 := n0_; have HB := n1_; have BK135 := n2_; have GW135 := n3_; have GE135 := n4_; have NB132_135 := n5_; have NB135_132 := n6_; clear n0_ n1_ n2_ n3_ n4_ n5_ n6_; clear hb hbox hg; have hnb46 := NB135_132.out; have hnc46 := NB132_135.out; obtain ⟨hcz47_0, hcz47_1, hcz47_2, hcz47_3, hfz47_0, hfz47_1, hfz47_2, hfz47_3⟩ := bc4 BK135.out; obtain ⟨hcz48_0, hcz48_1, hcz48_2, hcz48_3, hfz48_0, hfz48_1, hfz48_2, hfz48_3⟩ := bc4 BK132.out))
                                  repeat (go_quiet (fail); try go_wp2_with (fail))
                                  go_ret
                                  exact ⟨by first | rfl | (simp [errW_none, errW_some] <;> rfl) | (simp [*, errW_none, errW_some] <;> rfl), by repeat (first | (with_reducible first | exact HB.out | apply below_alloc | apply pw_below_drewN | apply below_drew1 | refine below_set ?_ GE132.out | refine below_set ?_ GE135.out) | exact HB.out)⟩
                              · rw [if_neg c13] at H
                                exact absurd H (by simp)
                            · rw [if_neg c12] at H
                              exact absurd H (by simp)
                          · rw [if_neg c11] at H
                            exact absurd H (by simp)
                        · rw [if_neg c10] at H
                          have c10b0 : decide (x6_2 < (((rd_T26 l0 x5_1).f0).length : Int)) = false := decide_eq_false c10
                          clear c10
                          have H' := Aside0.mk H
                          clear H
                          have p129 : 0 ≤ (x5_1 : Int) := oa
                          have q129 : x5_1 < (l0.length : Int) := oa
                          obtain ⟨ad129, A129_0, c129_0, e129, hx129_0, hl129_0, hi129_0⟩ := at_T26 HR0.out x5_1 p129 q129
                          obtain rfl : ad127 = ad129 := (by injection e129)
                          replace hx129_0 := hbc HB.out hx129_0
                          have HR129_0 := Aside0.mk hi129_0
                          have HC129_0 := Aside0.mk hl129_0
                          clear hi129_0 hl129_0
                          replace p129 := eq_true p129
                          replace q129 := eq_true q129
                          go_wp2
                          repeat (go_quiet (fail); try go_wp2)
                          go_roundg k2
                          case measure => have := HK1.out; have := HK2.out; omega
                          case rel => exact ⟨(wrap64 (x5_1 + 1)), (by first | rfl | (simp; done) | (simp [*]; done) | (simp [isE0, isE1]; done)), H', ⟨by have := HK1.out; have := HK2.out; omega⟩, ⟨by repeat (first | (with_reducible first | exact HB.out | apply below_alloc | apply pw_below_drewN | apply below_drew1) | exact HB.out)⟩⟩
                      · rw [if_neg c9] at H
                        exact absurd H (by simp)
                    · rw [if_neg c8] at H
                      exact absurd H (by simp)
              · rw [if_neg c7] at H
                have c7b0 : ((((rd_T26 l0 x5_1).f0).length : Int) == (((rd_T26 l1 x5_1).f0).length : Int)) = false := beq_eq_false_iff_ne.mpr c7
                have c7b1 : ((((rd_T26 l0 x5_1).f0).length : Int) != (((rd_T26 l1 x5_1).f0).length : Int)) = true := bne_iff_ne.mpr c7
                have c7b2 : (((rd_T26 l0 x5_1).f0).length == ((rd_T26 l1 x5_1).f0).length) = false := by first | simpa using c7 | (simp at c7 ⊢; omega)
                obtain rfl := Option.some.inj H
                have p127 : 0 ≤ (x5_1 : Int) := oa
                have q127 : x5_1 < (l0.length : Int) := oa
                obtain ⟨ad127, A127_0, c127_0, e127, hx127_0, hl127_0, hi127_0⟩ := at_T26 HR0.out x5_1 p127 q127
                cases e127
                replace hx127_0 := hbc HB.out hx127_0
                have HR127_0 := Aside0.mk hi127_0
                have HC127_0 := Aside0.mk hl127_0
                clear hi127_0 hl127_0
                replace p127 := eq_true p127
                replace q127 := eq_true q127
                have p128 : 0 ≤ (x5_1 : Int) := oa
                have q128 : x5_1 < (l1.length : Int) := oa
                obtain ⟨ad128, A128_0, c128_0, e128, hx128_0, hl128_0, hi128_0⟩ := at_T26 HR1.out x5_1 p128 q128
                cases e128
                replace hx128_0 := hbc HB.out hx128_0
                have HR128_0 := Aside0.mk hi128_0
                have HC128_0 := Aside0.mk hl128_0
                clear hi128_0 hl128_0
                replace p128 := eq_true p128
                replace q128 := eq_true q128
                go_wp2
                repeat (go_quiet (fail); try go_wp2)
                go_ret
                exact ⟨by first | rfl | (simp [errW_none, errW_some] <;> rfl) | (simp [*, errW_none, errW_some] <;> rfl), by repeat (first | (with_reducible first | exact HB.out | apply below_alloc | apply pw_below_drewN | apply below_drew1) | exact HB.out)⟩
            · rw [if_neg c6] at H
              exact absurd H (by simp)
          · rw [if_neg c5] at H
            exact absurd H (by simp)
        · rw [if_neg c4] at H
          have c4b0 : decide (x5_1 < (l0.length : Int)) = false := decide_eq_false c4
          clear c4
          obtain rfl := Option.some.inj H
          go_wp2
          repeat (go_quiet (fail); try go_wp2)
          go_ret
          exact ⟨by first | rfl | (simp [errW_none, errW_some] <;> rfl) | (simp [*, errW_none, errW_some] <;> rfl), by repeat (first | (with_reducible first | exact HB.out | apply below_alloc | apply pw_below_drewN | apply below_drew1) | exact HB.out)⟩
  · rw [if_neg c3] at H
    have c3b0 : ((l0.length : Int) == (l1.length : Int)) = false := beq_eq_false_iff_ne.mpr c3
    have c3b1 : ((l0.length : Int) != (l1.length : Int)) = true := bne_iff_ne.mpr c3
    have c3b2 : (l0.length == l1.length) = false := by first | simpa using c3 | (simp at c3 ⊢; omega)
    obtain rfl := Option.some.inj H
    go_enter Try.func99, Try.ntmps99
    go_wp2
    repeat (go_quiet (fail); try go_wp2)
    go_ret
    exact ⟨by first | rfl | (simp [errW_none, errW_some] <;> rfl) | (simp [*, errW_none, errW_some] <;> rfl), by repeat (first | (with_reducible first | exact HB.out | apply below_alloc | apply pw_below_drewN | apply below_drew1) | exact HB.out)⟩

/-! ### spec_l11SameTexts: function 101 -/
def spec_l11SameTexts.l0 : Nat → List ByteArray → List ByteArray → Int → Option (Bool)
  | 0, _, _, _ => none
  | k + 1, x0, x1, x5 => if x5 < (x0.length : Int) then (if 0 ≤ x5 then (if x5 < (x1.length : Int) then (if (rdOf ByteArray.empty x0 x5).toList = (rdOf ByteArray.empty x1 x5).toList then (spec_l11SameTexts.l0 k x0 x1 (wrap64 (x5 + 1))) else (some false)) else (none)) else (none)) else (some true)
def spec_l11SameTexts.f (k : Nat) (l0 : List ByteArray) (l1 : List ByteArray) : Option (Bool) := if (l0.length : Int) = (l1.length : Int) then (spec_l11SameTexts.l0 k l0 l1 0) else (some false)
theorem spec_l11SameTexts.mono_l : ∀ k, (∀ y0 y1 y2, LeO (spec_l11SameTexts.l0 k y0 y1 y2) (spec_l11SameTexts.l0 (k + 1) y0 y1 y2))
  | 0 => fun _ _ _ r h => by simp [spec_l11SameTexts.l0] at h
  | k + 1 => by
    have ih0 := spec_l11SameTexts.mono_l k
    · intro y0 y1 y2
      unfold spec_l11SameTexts.l0
      repeat' first
      | (with_reducible exact ih0 _ _ _)
      | (with_reducible exact LeO.refl _)
      | (with_reducible exact LeO.none _)
      | (with_reducible refine LeO.ite ?_ ?_)
      | (with_reducible refine LeO.bind ?_ (fun _ => ?_))
      | exact ih0 _ _ _
      | exact LeO.none _
      | refine LeO.ite ?_ ?_
      | refine LeO.bind ?_ (fun _ => ?_)
theorem spec_l11SameTexts.mono : ∀ a0 a1 k, LeO (spec_l11SameTexts.f k a0 a1) (spec_l11SameTexts.f (k + 1) a0 a1) := by
  intro a0 a1 k
  have ih0 := spec_l11SameTexts.mono_l k
  unfold spec_l11SameTexts.f
  repeat' first
      | (with_reducible exact ih0 _ _ _)
      | (with_reducible exact LeO.refl _)
      | (with_reducible exact LeO.none _)
      | (with_reducible refine LeO.ite ?_ ?_)
      | (with_reducible refine LeO.bind ?_ (fun _ => ?_))
      | exact ih0 _ _ _
      | exact LeO.none _
      | refine LeO.ite ?_ ?_
      | refine LeO.bind ?_ (fun _ => ?_)
set_option maxHeartbeats 8000000 in
set_option maxRecDepth 100000 in
theorem spec_l11SameTexts.calls (k : Nat) (A0 : Option Addr) (c0 : Nat) (l0 : List ByteArray) (A1 : Option Addr) (c1 : Nat) (l1 : List ByteArray) (r : Bool) (w : World) (hr0 : Kd.C Kd.string w A0 l0.length l0) (hc0 : l0.length ≤ c0) (hr1 : Kd.C Kd.string w A1 l1.length l1) (hc1 : l1.length ≤ c1) (h : spec_l11SameTexts.f k l0 l1 = some r) :
    Calls Try.prog 101 #[.slice A0 l0.length c0, .slice A1 l1.length c1] w fun e w' => e = .returned (.bool r) ∧ Drawn0 w w' := by
  have HR0 := Aside0.mk hr0
  have HC0 := Aside0.mk hc0
  clear hr0 hc0
  have HR1 := Aside0.mk hr1
  have HC1 := Aside0.mk hc1
  clear hr1 hc1
  have H : (if (l0.length : Int) = (l1.length : Int) then (spec_l11SameTexts.l0 k l0 l1 0) else (some false)) = some r := h
  clear h
  by_cases c3 : (l0.length : Int) = (l1.length : Int)
  · rw [if_pos c3] at H
    have c3b0 : ((l0.length : Int) == (l1.length : Int)) = true := beq_iff_eq.mpr c3
    have c3b1 : ((l0.length : Int) != (l1.length : Int)) = false := bne_eq_false_iff_eq.mpr c3
    have c3b2 : (l0.length == l1.length) = true := by first | simpa using c3 | (simp at c3 ⊢; omega)
    clear c3
    have H' := Aside0.mk H
    clear H
    go_enter Try.func101, Try.ntmps101
    go_wp2
    repeat (go_quiet (fail); try go_wp2)
    go_loopg [5] k (fun kq v5 w' => ∃ (x5_1 : Int), v5 = .int .i64 x5_1 ∧ Aside0 (spec_l11SameTexts.l0 kq l0 l1 x5_1 = some r) ∧ Aside0 (kq ≤ k) ∧ Drawn0 w w')
    case atStart => exact ⟨(0), (by first | rfl | (simp; done) | (simp [*]; done) | (simp [isE0, isE1]; done)), H', ⟨Nat.le_refl _⟩, by repeat (first | exact Drawn0.refl _ | apply Drawn0.step)⟩
    case round =>
      clear H'
      try clear c1
      try clear p2
      try clear c3
      try clear c3b0
      try clear c3b1
      try clear c3b2
      obtain ⟨x5_1, rfl, HA, HK1, ⟨m1, rfl⟩⟩ := hrel
      cases gk with
      | zero => exact absurd HA.out (by simp [spec_l11SameTexts.l0])
      | succ k1 =>
        have H := HA.out
        clear HA
        simp only [spec_l11SameTexts.l0] at H
        by_cases c4 : x5_1 < (l0.length : Int)
        · rw [if_pos c4] at H
          have c4b0 : decide (x5_1 < (l0.length : Int)) = true := decide_eq_true c4
          clear c4
          by_cases c5 : 0 ≤ x5_1
          · rw [if_pos c5] at H
            have c5b0 : decide (0 ≤ x5_1) = true := decide_eq_true c5
            clear c5
            by_cases c6 : x5_1 < (l1.length : Int)
            · rw [if_pos c6] at H
              have c6b0 : decide (x5_1 < (l1.length : Int)) = true := decide_eq_true c6
              clear c6
              by_cases c7 : (rdOf ByteArray.empty l0 x5_1).toList = (rdOf ByteArray.empty l1 x5_1).toList
              · rw [if_pos c7] at H
                have c7b0 : ((rdOf ByteArray.empty l0 x5_1).toList == (rdOf ByteArray.empty l1 x5_1).toList) = true := beq_iff_eq.mpr c7
                have c7b1 : ((rdOf ByteArray.empty l0 x5_1).toList != (rdOf ByteArray.empty l1 x5_1).toList) = false := bne_eq_false_iff_eq.mpr c7
                clear c7
                have H' := Aside0.mk H
                clear H
                have p137 : 0 ≤ (x5_1 : Int) := oa
                have q137 : x5_1 < (l0.length : Int) := oa
                obtain ⟨ad137, e137, hx137_0⟩ := Kd.at_string HR0.out x5_1 p137 q137
                cases e137
                replace p137 := eq_true p137
                replace q137 := eq_true q137
                have p138 : 0 ≤ (x5_1 : Int) := oa
                have q138 : x5_1 < (l1.length : Int) := oa
                obtain ⟨ad138, e138, hx138_0⟩ := Kd.at_string HR1.out x5_1 p138 q138
                cases e138
                replace p138 := eq_true p138
                replace q138 := eq_true q138
                go_wp2
                repeat (go_quiet (fail); try go_wp2)
                go_roundg k1
                case measure => have := HK1.out; omega
                case rel => exact ⟨(wrap64 (x5_1 + 1)), (by first | rfl | (simp; done) | (simp [*]; done) | (simp [isE0, isE1]; done)), H', ⟨by have := HK1.out; omega⟩, by repeat (first | exact Drawn0.refl _ | apply Drawn0.step)⟩
              · rw [if_neg c7] at H
                have c7b0 : ((rdOf ByteArray.empty l0 x5_1).toList == (rdOf ByteArray.empty l1 x5_1).toList) = false := beq_eq_false_iff_ne.mpr c7
                have c7b1 : ((rdOf ByteArray.empty l0 x5_1).toList != (rdOf ByteArray.empty l1 x5_1).toList) = true := bne_iff_ne.mpr c7
                obtain rfl := Option.some.inj H
                have p137 : 0 ≤ (x5_1 : Int) := oa
                have q137 : x5_1 < (l0.length : Int) := oa
                obtain ⟨ad137, e137, hx137_0⟩ := Kd.at_string HR0.out x5_1 p137 q137
                cases e137
                replace p137 := eq_true p137
                replace q137 := eq_true q137
                have p138 : 0 ≤ (x5_1 : Int) := oa
                have q138 : x5_1 < (l1.length : Int) := oa
                obtain ⟨ad138, e138, hx138_0⟩ := Kd.at_string HR1.out x5_1 p138 q138
                cases e138
                replace p138 := eq_true p138
                replace q138 := eq_true q138
                go_wp2
                repeat (go_quiet (fail); try go_wp2)
                go_ret
                exact ⟨by first | rfl | (simp; done) | (simp [*]; done) | (simp [isE0, isE1]; done), by repeat (first | exact Drawn0.refl _ | apply Drawn0.step)⟩
            · rw [if_neg c6] at H
              exact absurd H (by simp)
          · rw [if_neg c5] at H
            exact absurd H (by simp)
        · rw [if_neg c4] at H
          have c4b0 : decide (x5_1 < (l0.length : Int)) = false := decide_eq_false c4
          clear c4
          obtain rfl := Option.some.inj H
          go_wp2
          repeat (go_quiet (fail); try go_wp2)
          go_ret
          exact ⟨by first | rfl | (simp; done) | (simp [*]; done) | (simp [isE0, isE1]; done), by repeat (first | exact Drawn0.refl _ | apply Drawn0.step)⟩
  · rw [if_neg c3] at H
    have c3b0 : ((l0.length : Int) == (l1.length : Int)) = false := beq_eq_false_iff_ne.mpr c3
    have c3b1 : ((l0.length : Int) != (l1.length : Int)) = true := bne_iff_ne.mpr c3
    have c3b2 : (l0.length == l1.length) = false := by first | simpa using c3 | (simp at c3 ⊢; omega)
    obtain rfl := Option.some.inj H
    go_enter Try.func101, Try.ntmps101
    go_wp2
    repeat (go_quiet (fail); try go_wp2)
    go_ret
    exact ⟨by first | rfl | (simp; done) | (simp [*]; done) | (simp [isE0, isE1]; done), by repeat (first | exact Drawn0.refl _ | apply Drawn0.step)⟩

end Go.Proofs.Ytlkbdoejeomlmaa.PFnExactSameGrammar
