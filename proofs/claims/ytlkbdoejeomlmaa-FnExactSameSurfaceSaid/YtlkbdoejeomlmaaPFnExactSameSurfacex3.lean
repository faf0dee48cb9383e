/- Written by a program of this session out of Lean's print of the translation: what the calls of these Go functions come to, in plain Lean. No condition. -/
import Derived.Test.YtlkbdoejeomlmaaPFnExactSameSurfacex0
import Derived.Test.YtlkbdoejeomlmaaPFnExactSameSurfacex2
namespace Go.Proofs.Ytlkbdoejeomlmaa.PFnExactSameSurface
open Go.RowKit Go.Proofs.YtlkbdoejeomlmaaW.PrintWords Go.Proofs.YtlkbdoejeomlmaaW.PrintLast Go.Proofs.YtlkbdoejeomlmaaW.PrintMore
attribute [local go_sem] max2_int min2_int max_two min_two max_three min_three max_four min_four   -- for this text's walks alone
set_option linter.unusedVariables false
set_option linter.unusedSimpArgs false

/-! ### spec_l11SameExprs: function 99 -/
mutual
def spec_l11SameExprs.l0 : Nat → List (S26) → List (S26) → Int → Option (Bool)
 | 0, _, _, _ => none
 | k + 1, x0, x1, x5 => if x5 < (x0.length : Int) then (if 0 ≤ x5 then (if x5 < (x1.length : Int) then (if (((rd_T26 x0 x5).f0).length : Int) = (((rd_T26 x1 x5).f0).length : Int) then (spec_l11SameExprs.l1 k x0 x1 x5 0) else (some false)) else (none)) else (none)) else (some true)
def spec_l11SameExprs.l1 : Nat → List (S26) → List (S26) → Int → Int → Option (Bool)
 | 0, _, _, _, _ => none
 | k + 1, x0, x1, x5, x6 => if 0 ≤ x5 then (if x5 < (x0.length : Int) then (if x6 < (((rd_T26 x0 x5).f0).length : Int) then (if 0 ≤ x6 then (if x5 < (x1.length : Int) then (if x6 < (((rd_T26 x1 x5).f0).length : Int) then (if ((rd_T32 ((rd_T26 x0 x5).f0) x6).f0) = ((rd_T32 ((rd_T26 x1 x5).f0) x6).f0) then (if ((rd_T32 ((rd_T26 x0 x5).f0) x6).f1) = ((rd_T32 ((rd_T26 x1 x5).f0) x6).f1) then (if ((rd_T32 ((rd_T26 x0 x5).f0) x6).f2).toList = ((rd_T32 ((rd_T26 x1 x5).f0) x6).f2).toList then ((spec_l07SameInts.f k ((rd_T32 ((rd_T26 x0 x5).f0) x6).f3) ((rd_T32 ((rd_T26 x1 x5).f0) x6).f3)).bind fun t133 => (if t133 = true then (spec_l11SameExprs.l1 k x0 x1 x5 (wrap64 (x6 + 1))) else (some false))) else (some false)) else (some false)) else (some false)) else (none)) else (none)) else (none)) else (spec_l11SameExprs.l0 k x0 x1 (wrap64 (x5 + 1)))) else (none)) else (none)
end
def spec_l11SameExprs.f (k : Nat) (l0 : List (S26)) (l1 : List (S26)) : Option (Bool) := if (l0.length : Int) = (l1.length : Int) then (spec_l11SameExprs.l0 k l0 l1 0) else (some false)
theorem spec_l11SameExprs.mono_l : ∀ k, (∀ y0 y1 y2, LeO (spec_l11SameExprs.l0 k y0 y1 y2) (spec_l11SameExprs.l0 (k + 1) y0 y1 y2)) ∧ (∀ y0 y1 y2 y3, LeO (spec_l11SameExprs.l1 k y0 y1 y2 y3) (spec_l11SameExprs.l1 (k + 1) y0 y1 y2 y3))
 | 0 => ⟨fun _ _ _ r h => by simp [spec_l11SameExprs.l0] at h, fun _ _ _ _ r h => by simp [spec_l11SameExprs.l1] at h⟩
 | k + 1 => by
  obtain ⟨ih0, ih1⟩ := spec_l11SameExprs.mono_l k
  refine ⟨?_, ?_⟩
  ·intro y0 y1 y2
   unfold spec_l11SameExprs.l0
   repeat' first
   | (with_reducible exact ih0 _ _ _)
   | (with_reducible exact ih1 _ _ _ _)
   | (with_reducible exact spec_l07SameInts.mono _ _ _)
   | (with_reducible exact LeO.refl _)
   | (with_reducible exact LeO.none _)
   | (with_reducible refine LeO.ite ?_ ?_)
   | (with_reducible refine LeO.bind ?_ (fun _ => ?_))
   | exact ih0 _ _ _
   | exact ih1 _ _ _ _
   | exact spec_l07SameInts.mono _ _ _
   | exact LeO.none _
   | refine LeO.ite ?_ ?_
   | refine LeO.bind ?_ (fun _ => ?_)
  ·intro y0 y1 y2 y3
   unfold spec_l11SameExprs.l1
   repeat' first
   | (with_reducible exact ih0 _ _ _)
   | (with_reducible exact ih1 _ _ _ _)
   | (with_reducible exact spec_l07SameInts.mono _ _ _)
   | (with_reducible exact LeO.refl _)
   | (with_reducible exact LeO.none _)
   | (with_reducible refine LeO.ite ?_ ?_)
   | (with_reducible refine LeO.bind ?_ (fun _ => ?_))
   | exact ih0 _ _ _
   | exact ih1 _ _ _ _
   | exact spec_l07SameInts.mono _ _ _
   | exact LeO.none _
   | refine LeO.ite ?_ ?_
   | refine LeO.bind ?_ (fun _ => ?_)
theorem spec_l11SameExprs.mono : ∀ a0 a1 k, LeO (spec_l11SameExprs.f k a0 a1) (spec_l11SameExprs.f (k + 1) a0 a1) := by
 intro a0 a1 k
 obtain ⟨ih0, ih1⟩ := spec_l11SameExprs.mono_l k
 unfold spec_l11SameExprs.f
 repeat' first
   | (with_reducible exact ih0 _ _ _)
   | (with_reducible exact ih1 _ _ _ _)
   | (with_reducible exact spec_l07SameInts.mono _ _ _)
   | (with_reducible exact LeO.refl _)
   | (with_reducible exact LeO.none _)
   | (with_reducible refine LeO.ite ?_ ?_)
   | (with_reducible refine LeO.bind ?_ (fun _ => ?_))
   | exact ih0 _ _ _
   | exact ih1 _ _ _ _
   | exact spec_l07SameInts.mono _ _ _
   | exact LeO.none _
   | refine LeO.ite ?_ ?_
   | refine LeO.bind ?_ (fun _ => ?_)
set_option maxHeartbeats 8000000 in
set_option maxRecDepth 100000 in
theorem spec_l11SameExprs.calls (k : Nat) (A0 : Option Addr) (c0 : Nat) (l0 : List (S26)) (A1 : Option Addr) (c1 : Nat) (l1 : List (S26)) (r : Bool) (w : World) (hr0 : Kd.C k26 w A0 l0.length l0) (hc0 : l0.length ≤ c0) (hr1 : Kd.C k26 w A1 l1.length l1) (hc1 : l1.length ≤ c1) (h : spec_l11SameExprs.f k l0 l1 = some r) :
  Calls Try.prog 99 #[.slice A0 l0.length c0, .slice A1 l1.length c1] w fun e w' => e = .returned (.bool r) ∧ Below w.heap.size w w' := by
 have hu32 := Try.underlying32
 have HR0 := Aside0.mk hr0
 have HC0 := Aside0.mk hc0
 clear hr0 hc0
 have HR1 := Aside0.mk hr1
 have HC1 := Aside0.mk hc1
 clear hr1 hc1
 have HB := Aside0.mk (Below.refl w.heap.size w)
 have H : (if (l0.length : Int) = (l1.length : Int) then (spec_l11SameExprs.l0 k l0 l1 0) else (some false)) = some r := h
 clear h
 by_cases c3 : (l0.length : Int) = (l1.length : Int)
 ·rw [if_pos c3] at H
  have c3b0 : ((l0.length : Int) == (l1.length : Int)) = true := beq_iff_eq.mpr c3
  have c3b1 : ((l0.length : Int) != (l1.length : Int)) = false := bne_eq_false_iff_eq.mpr c3
  have c3b2 : (l0.length == l1.length) = true := by first | simpa using c3 | (simp at c3 ⊢; omega)
  clear c3
  have H' := Aside0.mk H
  clear H
  go_enter Try.func99, Try.ntmps99
  go_wp2
  repeat (go_quiet (fail); try go_wp2)
  go_loopg [5] k (fun kq v5 w' => ∃ (x5_1 : Int), v5 = .int .i64 x5_1 ∧ Aside0 (spec_l11SameExprs.l0 kq l0 l1 x5_1 = some r) ∧ Aside0 (kq ≤ k) ∧ Aside0 (Below w.heap.size w w'))
  case atStart => exact ⟨(0), (by first | rfl | (simp; done) | (simp [*]; done) | (simp [isE0, isE1]; done)), H', ⟨Nat.le_refl _⟩, ⟨by repeat (first | (with_reducible first | exact HB.out | apply below_alloc | apply pw_below_drewN | apply below_drew1) | exact HB.out)⟩⟩
  case round =>
   clear H'
   try clear c1
   try clear p2
   try clear c3
   try clear c3b0
   try clear c3b1
   try clear c3b2
   obtain ⟨x5_1, rfl, HA, HK1, HB⟩ := hrel
   cases gk with
   | zero => exact absurd HA.out (by simp [spec_l11SameExprs.l0])
   | succ k1 =>
    have H := HA.out
    clear HA
    simp only [spec_l11SameExprs.l0] at H
    by_cases c4 : x5_1 < (l0.length : Int)
    ·rw [if_pos c4] at H
     have c4b0 : decide (x5_1 < (l0.length : Int)) = true := decide_eq_true c4
     clear c4
     by_cases c5 : 0 ≤ x5_1
     ·rw [if_pos c5] at H
      have c5b0 : decide (0 ≤ x5_1) = true := decide_eq_true c5
      clear c5
      by_cases c6 : x5_1 < (l1.length : Int)
      ·rw [if_pos c6] at H
       have c6b0 : decide (x5_1 < (l1.length : Int)) = true := decide_eq_true c6
       clear c6
       by_cases c7 : (((rd_T26 l0 x5_1).f0).length : Int) = (((rd_T26 l1 x5_1).f0).length : Int)
       ·rw [if_pos c7] at H
        have c7b0 : ((((rd_T26 l0 x5_1).f0).length : Int) == (((rd_T26 l1 x5_1).f0).length : Int)) = true := beq_iff_eq.mpr c7
        have c7b1 : ((((rd_T26 l0 x5_1).f0).length : Int) != (((rd_T26 l1 x5_1).f0).length : Int)) = false := bne_eq_false_iff_eq.mpr c7
        have c7b2 : (((rd_T26 l0 x5_1).f0).length == ((rd_T26 l1 x5_1).f0).length) = true := by first | simpa using c7 | (simp at c7 ⊢; omega)
        clear c7
        have H' := Aside0.mk H
        clear H
        have p124 : 0 ≤ (x5_1 : Int) := oa
        have q124 : x5_1 < (l0.length : Int) := oa
        obtain ⟨ad124, A124_0, c124_0, e124, hx124_0, hl124_0, hi124_0⟩ := at_T26 HR0.out x5_1 p124 q124
        cases e124
        replace hx124_0 := hbc HB.out hx124_0
        have HR124_0 := Aside0.mk hi124_0
        have HC124_0 := Aside0.mk hl124_0
        clear hi124_0 hl124_0
        replace p124 := eq_true p124
        replace q124 := eq_true q124
        have p125 : 0 ≤ (x5_1 : Int) := oa
        have q125 : x5_1 < (l1.length : Int) := oa
        obtain ⟨ad125, A125_0, c125_0, e125, hx125_0, hl125_0, hi125_0⟩ := at_T26 HR1.out x5_1 p125 q125
        cases e125
        replace hx125_0 := hbc HB.out hx125_0
        have HR125_0 := Aside0.mk hi125_0
        have HC125_0 := Aside0.mk hl125_0
        clear hi125_0 hl125_0
        replace p125 := eq_true p125
        replace q125 := eq_true q125
        go_wp2
        repeat (go_quiet (fail); try go_wp2)
        go_loopg [6] k1 (fun kq v6 w' => ∃ (x6_2 : Int), v6 = .int .i64 x6_2 ∧ Aside0 (spec_l11SameExprs.l1 kq l0 l1 x5_1 x6_2 = some r) ∧ Aside0 (kq ≤ k1) ∧ Aside0 (Below w.heap.size w w'))
        case atStart => exact ⟨(0), (by first | rfl | (simp; done) | (simp [*]; done) | (simp [isE0, isE1]; done)), H', ⟨Nat.le_refl _⟩, ⟨by repeat (first | (with_reducible first | exact HB.out | apply below_alloc | apply pw_below_drewN | apply below_drew1) | exact HB.out)⟩⟩
        case round =>
         clear H'
         try clear c1
         try clear p1
         try clear q1
         try clear hx1
         try clear p2
         try clear c3
         try clear c3b0
         try clear c3b1
         try clear c3b2
         try clear c4
         try clear c4b0
         try clear c5
         try clear c5b0
         try clear c6
         try clear c6b0
         try clear c7
         try clear c7b0
         try clear c7b1
         try clear c7b2
         try clear hx124_0
         try clear hx125_0
         try clear p124
         try clear p125
         try clear p2
         try clear q124
         try clear q125
         obtain ⟨x6_2, rfl, HA, HK2, HB⟩ := hrel
         cases gk with
         | zero => exact absurd HA.out (by simp [spec_l11SameExprs.l1])
         | succ k2 =>
          have H := HA.out
          clear HA
          simp only [spec_l11SameExprs.l1] at H
          by_cases c8 : 0 ≤ x5_1
          ·rw [if_pos c8] at H
           have c8b0 : decide (0 ≤ x5_1) = true := decide_eq_true c8
           clear c8
           by_cases c9 : x5_1 < (l0.length : Int)
           ·rw [if_pos c9] at H
            have c9b0 : decide (x5_1 < (l0.length : Int)) = true := decide_eq_true c9
            clear c9
            by_cases c10 : x6_2 < (((rd_T26 l0 x5_1).f0).length : Int)
            ·rw [if_pos c10] at H
             have c10b0 : decide (x6_2 < (((rd_T26 l0 x5_1).f0).length : Int)) = true := decide_eq_true c10
             clear c10
             by_cases c11 : 0 ≤ x6_2
             ·rw [if_pos c11] at H
              have c11b0 : decide (0 ≤ x6_2) = true := decide_eq_true c11
              clear c11
              by_cases c12 : x5_1 < (l1.length : Int)
              ·rw [if_pos c12] at H
               have c12b0 : decide (x5_1 < (l1.length : Int)) = true := decide_eq_true c12
               clear c12
               by_cases c13 : x6_2 < (((rd_T26 l1 x5_1).f0).length : Int)
               ·rw [if_pos c13] at H
                have c13b0 : decide (x6_2 < (((rd_T26 l1 x5_1).f0).length : Int)) = true := decide_eq_true c13
                clear c13
                by_cases c14 : ((rd_T32 ((rd_T26 l0 x5_1).f0) x6_2).f0) = ((rd_T32 ((rd_T26 l1 x5_1).f0) x6_2).f0)
                ·rw [if_pos c14] at H
                 have c14b0 : (((rd_T32 ((rd_T26 l0 x5_1).f0) x6_2).f0) == ((rd_T32 ((rd_T26 l1 x5_1).f0) x6_2).f0)) = true := beq_iff_eq.mpr c14
                 have c14b1 : (((rd_T32 ((rd_T26 l0 x5_1).f0) x6_2).f0) != ((rd_T32 ((rd_T26 l1 x5_1).f0) x6_2).f0)) = false := bne_eq_false_iff_eq.mpr c14
                 clear c14
                 by_cases c15 : ((rd_T32 ((rd_T26 l0 x5_1).f0) x6_2).f1) = ((rd_T32 ((rd_T26 l1 x5_1).f0) x6_2).f1)
                 ·rw [if_pos c15] at H
                  have c15b0 : (((rd_T32 ((rd_T26 l0 x5_1).f0) x6_2).f1) == ((rd_T32 ((rd_T26 l1 x5_1).f0) x6_2).f1)) = true := beq_iff_eq.mpr c15
                  have c15b1 : (((rd_T32 ((rd_T26 l0 x5_1).f0) x6_2).f1) != ((rd_T32 ((rd_T26 l1 x5_1).f0) x6_2).f1)) = false := bne_eq_false_iff_eq.mpr c15
                  clear c15
                  by_cases c16 : ((rd_T32 ((rd_T26 l0 x5_1).f0) x6_2).f2).toList = ((rd_T32 ((rd_T26 l1 x5_1).f0) x6_2).f2).toList
                  ·rw [if_pos c16] at H
                   have c16b0 : (((rd_T32 ((rd_T26 l0 x5_1).f0) x6_2).f2).toList == ((rd_T32 ((rd_T26 l1 x5_1).f0) x6_2).f2).toList) = true := beq_iff_eq.mpr c16
                   have c16b1 : (((rd_T32 ((rd_T26 l0 x5_1).f0) x6_2).f2).toList != ((rd_T32 ((rd_T26 l1 x5_1).f0) x6_2).f2).toList) = false := bne_eq_false_iff_eq.mpr c16
                   clear c16
                   replace H := Option.bind_eq_some_iff.mp H
                   obtain ⟨t133, A170, H⟩ := H
                   replace H : (if t133 = true then (spec_l11SameExprs.l1 k2 l0 l1 x5_1 (wrap64 (x6_2 + 1))) else (some false)) = some r := H
                   have A17 := Aside0.mk A170
                   clear A170
                   by_cases c18 : t133 = true
                   ·subst c18
                    have H1 : (spec_l11SameExprs.l1 k2 l0 l1 x5_1 (wrap64 (x6_2 + 1))) = some r := by rw [if_pos rfl] at H; exact H
                    clear H
                    have H := H1
                    clear H1
                    have H' := Aside0.mk H
                    clear H
                    have p126 : 0 ≤ (x5_1 : Int) := oa
                    have q126 : x5_1 < (l0.length : Int) := oa
                    obtain ⟨ad126, A126_0, c126_0, e126, hx126_0, hl126_0, hi126_0⟩ := at_T26 HR0.out x5_1 p126 q126
                    obtain rfl : ad124 = ad126 := (by injection e126)
                    replace hx126_0 := hbc HB.out hx126_0
                    have HR126_0 := Aside0.mk hi126_0
                    have HC126_0 := Aside0.mk hl126_0
                    clear hi126_0 hl126_0
                    replace p126 := eq_true p126
                    replace q126 := eq_true q126
                    have p127 : 0 ≤ (x5_1 : Int) := oa
                    have q127 : x5_1 < (l0.length : Int) := oa
                    obtain ⟨ad127, A127_0, c127_0, e127, hx127_0, hl127_0, hi127_0⟩ := at_T26 HR0.out x5_1 p127 q127
                    obtain rfl : ad124 = ad127 := (by injection e127)
                    replace hx127_0 := hbc HB.out hx127_0
                    have HR127_0 := Aside0.mk hi127_0
                    have HC127_0 := Aside0.mk hl127_0
                    clear hi127_0 hl127_0
                    replace p127 := eq_true p127
                    replace q127 := eq_true q127
                    have ea_ := Option.some.inj (hx126_0.symm.trans hx127_0)
                    injection ea_ with ea_ en_ ec_
                    subst ea_
                    subst ec_
                    clear en_
                    have p128 : 0 ≤ (x6_2 : Int) := oa
                    have q128 : x6_2 < (((rd_T26 l0 x5_1).f0).length : Int) := oa
                    obtain ⟨ad128, A128_3, c128_3, e128, hx128_0, hx128_1, hx128_2, hx128_3, hl128_3, hi128_3⟩ := at_T32 HR127_0.out x6_2 p128 q128
                    cases e128
                    replace hx128_0 := hbc HB.out hx128_0
                    replace hx128_1 := hbc HB.out hx128_1
                    replace hx128_2 := hbc HB.out hx128_2
                    replace hx128_3 := hbc HB.out hx128_3
                    have HR128_3 := Aside0.mk hi128_3
                    have HC128_3 := Aside0.mk hl128_3
                    clear hi128_3 hl128_3
                    replace p128 := eq_true p128
                    replace q128 := eq_true q128
                    go_wp2_with (first | ((with_reducible refine gate_dst (N := 7) rfl ?_); refine box_event ?hg (N := 7) ?hd (cs := #[.int .i64 0, .int .i64 0, .string (⟨#[]⟩ : ByteArray), .slice none 0 0]) (t := 32) ?hr ?_; (case hd => rfl); (case hg => rfl); (case hr => first | (go_simp; done) | (go_simp; rfl)); intro gb129 hg w19 hbox hb; have n0_ := Aside0.mk (below_step bw hb); have n1_ := Aside0.mk (hbox); have n2_ := Aside0.mk ((bz bw hg : w.heap.size ≤ gb129)); have n3_ := Aside0.mk ((bz bw hg : w.heap.size ≤ gb129)); clear HB; have HB := n0_; have BK129 := n1_; have GW129 := n2_; have GE129 := n3_; clear n0_ n1_ n2_ n3_; clear hb hbox hg; obtain ⟨hcz20_0, hcz20_1, hcz20_2, hcz20_3, hfz20_0, hfz20_1, hfz20_2, hfz20_3⟩ := bc4 BK129.out; have p130 : 0 ≤ (x5_1 : Int) := oa; have q130 : x5_1 < (l1.length : Int) := oa; obtain ⟨ad130, A130_0, c130_0, e130, hx130_0, hl130_0, hi130_0⟩ := at_T26 HR1.out x5_1 p130 q130; obtain rfl : ad125 = ad130 := (by injection e130); have hn130_0 : ad125.block ≠ gb129 := (by first | exact bn hx130_0 GW129.out | exact bm hx130_0 GW129.out); have hn130_1 : ad125.block ≠ gb129 := (by first | exact bn hx130_0 GW129.out | exact bm hx130_0 GW129.out); have hn130_2 : ad125.block ≠ gb129 := (by first | exact bn hx130_0 GW129.out | exact bm hx130_0 GW129.out); have hn130_3 : ad125.block ≠ gb129 := (by first | exact bn hx130_0 GW129.out | exact bm hx130_0 GW129.out); replace hx130_0 := hbc HB.out hx130_0; have HR130_0 := Aside0.mk hi130_0; have HC130_0 := Aside0.mk hl130_0; clear hi130_0 hl130_0; replace hx130_0 := fx ⟨gb129, 0, none⟩ (.int .i64 ((rd_T32 ((rd_T26 l0 x5_1).f0) x6_2).f0)) hx130_0; replace hx130_0 := fx ⟨gb129, 1, none⟩ (.int .i64 ((rd_T32 ((rd_T26 l0 x5_1).f0) x6_2).f1)) hx130_0; replace hx130_0 := fx ⟨gb129, 2, none⟩ (.string ((rd_T32 ((rd_T26 l0 x5_1).f0) x6_2).f2)) hx130_0; replace hx130_0 := fx ⟨gb129, 3, none⟩ (.slice A128_3 ((rd_T32 ((rd_T26 l0 x5_1).f0) x6_2).f3).length c128_3) hx130_0; (try have hy130_0 := dn4 hx130_0); clear hn130_0; clear hn130_1; clear hn130_2; clear hn130_3; replace p130 := eq_true p130; replace q130 := eq_true q130; have p131 : 0 ≤ (x6_2 : Int) := oa; have q131 : x6_2 < (((rd_T26 l1 x5_1).f0).length : Int) := oa; obtain ⟨ad131, A131_3, c131_3, e131, hx131_0, hx131_1, hx131_2, hx131_3, hl131_3, hi131_3⟩ := at_T32 HR130_0.out x6_2 p131 q131; cases e131; have hn131_0 : ad131.block ≠ gb129 := (by first | exact bn hx131_0 GW129.out | exact bm hx131_0 GW129.out); have hn131_1 : ad131.block ≠ gb129 := (by first | exact bn hx131_0 GW129.out | exact bm hx131_0 GW129.out); have hn131_2 : ad131.block ≠ gb129 := (by first | exact bn hx131_0 GW129.out | exact bm hx131_0 GW129.out); have hn131_3 : ad131.block ≠ gb129 := (by first | exact bn hx131_0 GW129.out | exact bm hx131_0 GW129.out); replace hx131_0 := hbc HB.out hx131_0; replace hx131_1 := hbc HB.out hx131_1; replace hx131_2 := hbc HB.out hx131_2; replace hx131_3 := hbc HB.out hx131_3; have HR131_3 := Aside0.mk hi131_3; have HC131_3 := Aside0.mk hl131_3; clear hi131_3 hl131_3; replace hx131_0 := fx ⟨gb129, 0, none⟩ (.int .i64 ((rd_T32 ((rd_T26 l0 x5_1).f0) x6_2).f0)) hx131_0; replace hx131_1 := fx ⟨gb129, 0, none⟩ (.int .i64 ((rd_T32 ((rd_T26 l0 x5_1).f0) x6_2).f0)) hx131_1; replace hx131_2 := fx ⟨gb129, 0, none⟩ (.int .i64 ((rd_T32 ((rd_T26 l0 x5_1).f0) x6_2).f0)) hx131_2; replace hx131_3 := fx ⟨gb129, 0, none⟩ (.int .i64 ((rd_T32 ((rd_T26 l0 x5_1).f0) x6_2).f0)) hx131_3; replace hx131_0 := fx ⟨gb129, 1, none⟩ (.int .i64 ((rd_T32 ((rd_T26 l0 x5_1).f0) x6_2).f1)) hx131_0; replace hx131_1 := fx ⟨gb129, 1, none⟩ (.int .i64 ((rd_T32 ((rd_T26 l0 x5_1).f0) x6_2).f1)) hx131_1; replace hx131_2 := fx ⟨gb129, 1, none⟩ (.int .i64 ((rd_T32 ((rd_T26 l0 x5_1).f0) x6_2).f1)) hx131_2; replace hx131_3 := fx ⟨gb129, 1, none⟩ (.int .i64 ((rd_T32 ((rd_T26 l0 x5_1).f0) x6_2).f1)) hx131_3; replace hx131_0 := fx ⟨gb129, 2, none⟩ (.string ((rd_T32 ((rd_T26 l0 x5_1).f0) x6_2).f2)) hx131_0; replace hx131_1 := fx ⟨gb129, 2, none⟩ (.string ((rd_T32 ((rd_T26 l0 x5_1).f0) x6_2).f2)) hx131_1; replace hx131_2 := fx ⟨gb129, 2, none⟩ (.string ((rd_T32 ((rd_T26 l0 x5_1).f0) x6_2).f2)) hx131_2; replace hx131_3 := fx ⟨gb129, 2, none⟩ (.string ((rd_T32 ((rd_T26 l0 x5_1).f0) x6_2).f2)) hx131_3; replace hx131_0 := fx ⟨gb129, 3, none⟩ (.slice A128_3 ((rd_T32 ((rd_T26 l0 x5_1).f0) x6_2).f3).length c128_3) hx131_0; replace hx131_1 := fx ⟨gb129, 3, none⟩ (.slice A128_3 ((rd_T32 ((rd_T26 l0 x5_1).f0) x6_2).f3).length c128_3) hx131_1; replace hx131_2 := fx ⟨gb129, 3, none⟩ (.slice A128_3 ((rd_T32 ((rd_T26 l0 x5_1).f0) x6_2).f3).length c128_3) hx131_2; replace hx131_3 := fx ⟨gb129, 3, none⟩ (.slice A128_3 ((rd_T32 ((rd_T26 l0 x5_1).f0) x6_2).f3).length c128_3) hx131_3; (try have hy131_0 := dn4 hx131_0); (try have hy131_1 := dn4 hx131_1); (try have hy131_2 := dn4 hx131_2); (try have hy131_3 := dn4 hx131_3); clear hn131_0; clear hn131_1; clear hn131_2; clear hn131_3; replace p131 := eq_true p131; replace q131 := eq_true q131) | ((with_reducible refine gate_dst (N := 8) rfl ?_); refine box_event ?hg (N := 8) ?hd (cs := #[.int .i64 0, .int .i64 0, .string (⟨#[]⟩ : ByteArray), .slice none 0 0]) (t := 32) ?hr ?_; (case hd => rfl); (case hg => rfl); (case hr => first | (go_simp; done) | (go_simp; rfl)); intro gb132 hg w21 hbox hb; have n0_ := Aside0.mk (blk_below (g := gb129) (o := .cells #[.int .i64 ((rd_T32 ((rd_T26 l0 x5_1).f0) x6_2).f0), .int .i64 ((rd_T32 ((rd_T26 l0 x5_1).f0) x6_2).f1), .string ((rd_T32 ((rd_T26 l0 x5_1).f0) x6_2).f2), .slice A128_3 ((rd_T32 ((rd_T26 l0 x5_1).f0) x6_2).f3).length c128_3] 32 (0, 0)) bx hb); have n1_ := Aside0.mk (below_step bw hb); have n2_ := Aside0.mk (hbox); have n3_ := Aside0.mk ((bz bw hg : w.heap.size ≤ gb132)); have n4_ := Aside0.mk ((bz bw hg : w.heap.size ≤ gb132)); have n5_ := Aside0.mk ((bl bx hg : gb129 ≠ gb132)); have n6_ := Aside0.mk ((bl' bx hg : gb132 ≠ gb129)); clear BK129; clear HB; have BK129 := n0_; have HB := n1_; have BK132 := n2_; have GW132 := n3_; have GE132 := n4_; have NB129_132 := n5_; have NB132_129 := n6_; clear n0_ n1_ n2_ n3_ n4_ n5_ n6_; clear hb hbox hg; have hnb22 := NB132_129.out; have hnc22 := NB129_132.out; obtain ⟨hcz23_0, hcz23_1, hcz23_2, hcz23_3, hfz23_0, hfz23_1, hfz23_2, hfz23_3⟩ := bc4 BK132.out; obtain ⟨hcz24_0, hcz24_1, hcz24_2, hcz24_3, hfz24_0, hfz24_1, hfz24_2, hfz24_3⟩ := bc4 BK129.out) | (go_at_call 100; (with_reducible refine (spec_l07SameInts.calls k2 _ _ ((rd_T32 ((rd_T26 l0 x5_1).f0) x6_2).f3) _ _ ((rd_T32 ((rd_T26 l1 x5_1).f0) x6_2).f3) true _ ?side1 ?side2 ?side3 ?side4 A17.out).mono ?_); (case side1 => exact Kd.C_below HR128_3.out bw); (case side2 => exact HC128_3.out); (case side3 => exact Kd.C_below HR131_3.out bw); (case side4 => exact HC131_3.out); rintro e w' ⟨rfl, ⟨nd, rfl⟩⟩; (try first | exact ⟨rfl, _, World.drewN_drewN _ _ _⟩ | exact ⟨rfl, _, Eq.trans (World.drewN_drewN _ _ _) (congrArg (World.drewN _) (Nat.add_assoc _ _ _))⟩)))
                    repeat (go_quiet (fail); try go_wp2_with (fail))
                    go_roundg k2
                    case measure => have := HK1.out; have := HK2.out; omega
                    case rel => exact ⟨(wrap64 (x6_2 + 1)), (by first | rfl | (simp; done) | (simp [*]; done) | (simp [isE0, isE1]; done)), H', ⟨by have := HK1.out; have := HK2.out; omega⟩, ⟨by repeat (first | (with_reducible first | exact HB.out | apply below_alloc | apply pw_below_drewN | apply below_drew1 | refine below_set ?_ GE129.out | refine below_set ?_ GE132.out) | exact HB.out)⟩⟩
                   ·replace c18 := Bool.eq_false_iff.mpr c18
                    subst c18
                    have H1 : (some false) = some r := by rw [if_neg (show ¬ (false = true) by decide)] at H; exact H
                    clear H
                    have H := H1
                    clear H1
                    obtain rfl := Option.some.inj H
                    have p126 : 0 ≤ (x5_1 : Int) := oa
                    have q126 : x5_1 < (l0.length : Int) := oa
                    obtain ⟨ad126, A126_0, c126_0, e126, hx126_0, hl126_0, hi126_0⟩ := at_T26 HR0.out x5_1 p126 q126
                    obtain rfl : ad124 = ad126 := (by injection e126)
                    replace hx126_0 := hbc HB.out hx126_0
                    have HR126_0 := Aside0.mk hi126_0
                    have HC126_0 := Aside0.mk hl126_0
                    clear hi126_0 hl126_0
                    replace p126 := eq_true p126
                    replace q126 := eq_true q126
                    have p127 : 0 ≤ (x5_1 : Int) := oa
                    have q127 : x5_1 < (l0.length : Int) := oa
                    obtain ⟨ad127, A127_0, c127_0, e127, hx127_0, hl127_0, hi127_0⟩ := at_T26 HR0.out x5_1 p127 q127
                    obtain rfl : ad124 = ad127 := (by injection e127)
                    replace hx127_0 := hbc HB.out hx127_0
                    have HR127_0 := Aside0.mk hi127_0
                    have HC127_0 := Aside0.mk hl127_0
                    clear hi127_0 hl127_0
                    replace p127 := eq_true p127
                    replace q127 := eq_true q127
                    have ea_ := Option.some.inj (hx126_0.symm.trans hx127_0)
                    injection ea_ with ea_ en_ ec_
                    subst ea_
                    subst ec_
                    clear en_
                    have p128 : 0 ≤ (x6_2 : Int) := oa
                    have q128 : x6_2 < (((rd_T26 l0 x5_1).f0).length : Int) := oa
                    obtain ⟨ad128, A128_3, c128_3, e128, hx128_0, hx128_1, hx128_2, hx128_3, hl128_3, hi128_3⟩ := at_T32 HR127_0.out x6_2 p128 q128
                    cases e128
                    replace hx128_0 := hbc HB.out hx128_0
                    replace hx128_1 := hbc HB.out hx128_1
                    replace hx128_2 := hbc HB.out hx128_2
                    replace hx128_3 := hbc HB.out hx128_3
                    have HR128_3 := Aside0.mk hi128_3
                    have HC128_3 := Aside0.mk hl128_3
                    clear hi128_3 hl128_3
                    replace p128 := eq_true p128
                    replace q128 := eq_true q128
                    go_wp2_with (first | ((with_reducible refine gate_dst (N := 7) rfl ?_); refine box_event ?hg (N := 7) ?hd (cs := #[.int .i64 0, .int .i64 0, .string (⟨#[]⟩ : ByteArray), .slice none 0 0]) (t := 32) ?hr ?_; (case hd => rfl); (case hg => rfl); (case hr => first | (go_simp; done) | (go_simp; rfl)); intro gb129 hg w25 hbox hb; have n0_ := Aside0.mk (below_step bw hb); have n1_ := Aside0.mk (hbox); have n2_ := Aside0.mk ((bz bw hg : w.heap.size ≤ gb129)); have n3_ := Aside0.mk ((bz bw hg : w.heap.size ≤ gb129)); clear HB; have HB := n0_; have BK129 := n1_; have GW129 := n2_; have GE129 := n3_; clear n0_ n1_ n2_ n3_; clear hb hbox hg; obtain ⟨hcz26_0, hcz26_1, hcz26_2, hcz26_3, hfz26_0, hfz26_1, hfz26_2, hfz26_3⟩ := bc4 BK129.out; have p130 : 0 ≤ (x5_1 : Int) := oa; have q130 : x5_1 < (l1.length : Int) := oa; obtain ⟨ad130, A130_0, c130_0, e130, hx130_0, hl130_0, hi130_0⟩ := at_T26 HR1.out x5_1 p130 q130; obtain rfl : ad125 = ad130 := (by injection e130); have hn130_0 : ad125.block ≠ gb129 := (by first | exact bn hx130_0 GW129.out | exact bm hx130_0 GW129.out); have hn130_1 : ad125.block ≠ gb129 := (by first | exact bn hx130_0 GW129.out | exact bm hx130_0 GW129.out); have hn130_2 : ad125.block ≠ gb129 := (by first | exact bn hx130_0 GW129.out | exact bm hx130_0 GW129.out); have hn130_3 : ad125.block ≠ gb129 := (by first | exact bn hx130_0 GW129.out | exact bm hx130_0 GW129.out); replace hx130_0 := hbc HB.out hx130_0; have HR130_0 := Aside0.mk hi130_0; have HC130_0 := Aside0.mk hl130_0; clear hi130_0 hl130_0; replace hx130_0 := fx ⟨gb129, 0, none⟩ (.int .i64 ((rd_T32 ((rd_T26 l0 x5_1).f0) x6_2).f0)) hx130_0; replace hx130_0 := fx ⟨gb129, 1, none⟩ (.int .i64 ((rd_T32 ((rd_T26 l0 x5_1).f0) x6_2).f1)) hx130_0; replace hx130_0 := fx ⟨gb129, 2, none⟩ (.string ((rd_T32 ((rd_T26 l0 x5_1).f0) x6_2).f2)) hx130_0; replace hx130_0 := fx ⟨gb129, 3, none⟩ (.slice A128_3 ((rd_T32 ((rd_T26 l0 x5_1).f0) x6_2).f3).length c128_3) hx130_0; (try have hy130_0 := dn4 hx130_0); clear hn130_0; clear hn130_1; clear hn130_2; clear hn130_3; replace p130 := eq_true p130; replace q130 := eq_true q130; have p131 : 0 ≤ (x6_2 : Int) := oa; have q131 : x6_2 < (((rd_T26 l1 x5_1).f0).length : Int) := oa; obtain ⟨ad131, A131_3, c131_3, e131, hx131_0, hx131_1, hx131_2, hx131_3, hl131_3, hi131_3⟩ := at_T32 HR130_0.out x6_2 p131 q131; cases e131; have hn131_0 : ad131.block ≠ gb129 := (by first | exact bn hx131_0 GW129.out | exact bm hx131_0 GW129.out); have hn131_1 : ad131.block ≠ gb129 := (by first | exact bn hx131_0 GW129.out | exact bm hx131_0 GW129.out); have hn131_2 : ad131.block ≠ gb129 := (by first | exact bn hx131_0 GW129.out | exact bm hx131_0 GW129.out); have hn131_3 : ad131.block ≠ gb129 := (by first | exact bn hx131_0 GW129.out | exact bm hx131_0 GW129.out); replace hx131_0 := hbc HB.out hx131_0; replace hx131_1 := hbc HB.out hx131_1; replace hx131_2 := hbc HB.out hx131_2; replace hx131_3 := hbc HB.out hx131_3; have HR131_3 := Aside0.mk hi131_3; have HC131_3 := Aside0.mk hl131_3; clear hi131_3 hl131_3; replace hx131_0 := fx ⟨gb129, 0, none⟩ (.int .i64 ((rd_T32 ((rd_T26 l0 x5_1).f0) x6_2).f0)) hx131_0; replace hx131_1 := fx ⟨gb129, 0, none⟩ (.int .i64 ((rd_T32 ((rd_T26 l0 x5_1).f0) x6_2).f0)) hx131_1; replace hx131_2 := fx ⟨gb129, 0, none⟩ (.int .i64 ((rd_T32 ((rd_T26 l0 x5_1).f0) x6_2).f0)) hx131_2; replace hx131_3 := fx ⟨gb129, 0, none⟩ (.int .i64 ((rd_T32 ((rd_T26 l0 x5_1).f0) x6_2).f0)) hx131_3; replace hx131_0 := fx ⟨gb129, 1, none⟩ (.int .i64 ((rd_T32 ((rd_T26 l0 x5_1).f0) x6_2).f1)) hx131_0; replace hx131_1 := fx ⟨gb129, 1, none⟩ (.int .i64 ((rd_T32 ((rd_T26 l0 x5_1).f0) x6_2).f1)) hx131_1; replace hx131_2 := fx ⟨gb129, 1, none⟩ (.int .i64 ((rd_T32 ((rd_T26 l0 x5_1).f0) x6_2).f1)) hx131_2; replace hx131_3 := fx ⟨gb129, 1, none⟩ (.int .i64 ((rd_T32 ((rd_T26 l0 x5_1).f0) x6_2).f1)) hx131_3; replace hx131_0 := fx ⟨gb129, 2, none⟩ (.string ((rd_T32 ((rd_T26 l0 x5_1).f0) x6_2).f2)) hx131_0; replace hx131_1 := fx ⟨gb129, 2, none⟩ (.string ((rd_T32 ((rd_T26 l0 x5_1).f0) x6_2).f2)) hx131_1; replace hx131_2 := fx ⟨gb129, 2, none⟩ (.string ((rd_T32 ((rd_T26 l0 x5_1).f0) x6_2).f2)) hx131_2; replace hx131_3 := fx ⟨gb129, 2, none⟩ (.string ((rd_T32 ((rd_T26 l0 x5_1).f0) x6_2).f2)) hx131_3; replace hx131_0 := fx ⟨gb129, 3, none⟩ (.slice A128_3 ((rd_T32 ((rd_T26 l0 x5_1).f0) x6_2).f3).length c128_3) hx131_0; replace hx131_1 := fx ⟨gb129, 3, none⟩ (.slice A128_3 ((rd_T32 ((rd_T26 l0 x5_1).f0) x6_2).f3).length c128_3) hx131_1; replace hx131_2 := fx ⟨gb129, 3, none⟩ (.slice A128_3 ((rd_T32 ((rd_T26 l0 x5_1).f0) x6_2).f3).length c128_3) hx131_2; replace hx131_3 := fx ⟨gb129, 3, none⟩ (.slice A128_3 ((rd_T32 ((rd_T26 l0 x5_1).f0) x6_2).f3).length c128_3) hx131_3; (try have hy131_0 := dn4 hx131_0); (try have hy131_1 := dn4 hx131_1); (try have hy131_2 := dn4 hx131_2); (try have hy131_3 := dn4 hx131_3); clear hn131_0; clear hn131_1; clear hn131_2; clear hn131_3; replace p131 := eq_true p131; replace q131 := eq_true q131) | ((with_reducible refine gate_dst (N := 8) rfl ?_); refine box_event ?hg (N := 8) ?hd (cs := #[.int .i64 0, .int .i64 0, .string (⟨#[]⟩ : ByteArray), .slice none 0 0]) (t := 32) ?hr ?_; (case hd => rfl); (case hg => rfl); (case hr => first | (go_simp; done) | (go_simp; rfl)); intro gb132 hg w27 hbox hb; have n0_ := Aside0.mk (blk_below (g := gb129) (o := .cells #[.int .i64 ((rd_T32 ((rd_T26 l0 x5_1).f0) x6_2).f0), .int .i64 ((rd_T32 ((rd_T26 l0 x5_1).f0) x6_2).f1), .string ((rd_T32 ((rd_T26 l0 x5_1).f0) x6_2).f2), .slice A128_3 ((rd_T32 ((rd_T26 l0 x5_1).f0) x6_2).f3).length c128_3] 32 (0, 0)) bx hb); have n1_ := Aside0.mk (below_step bw hb); have n2_ := Aside0.mk (hbox); have n3_ := Aside0.mk ((bz bw hg : w.heap.size ≤ gb132)); have n4_ := Aside0.mk ((bz bw hg : w.heap.size ≤ gb132)); have n5_ := Aside0.mk ((bl bx hg : gb129 ≠ gb132)); have n6_ := Aside0.mk ((bl' bx hg : gb132 ≠ gb129)); clear BK129; clear HB; have BK129 := n0_; have HB := n1_; have BK132 := n2_; have GW132 := n3_; have GE132 := n4_; have NB129_132 := n5_; have NB132_129 := n6_; clear n0_ n1_ n2_ n3_ n4_ n5_ n6_; clear hb hbox hg; have hnb28 := NB132_129.out; have hnc28 := NB129_132.out; obtain ⟨hcz29_0, hcz29_1, hcz29_2, hcz29_3, hfz29_0, hfz29_1, hfz29_2, hfz29_3⟩ := bc4 BK132.out; obtain ⟨hcz30_0, hcz30_1, hcz30_2, hcz30_3, hfz30_0, hfz30_1, hfz30_2, hfz30_3⟩ := bc4 BK129.out) | (go_at_call 100; (with_reducible refine (spec_l07SameInts.calls k2 _ _ ((rd_T32 ((rd_T26 l0 x5_1).f0) x6_2).f3) _ _ ((rd_T32 ((rd_T26 l1 x5_1).f0) x6_2).f3) false _ ?side1 ?side2 ?side3 ?side4 A17.out).mono ?_); (case side1 => exact Kd.C_below HR128_3.out bw); (case side2 => exact HC128_3.out); (case side3 => exact Kd.C_below HR131_3.out bw); (case side4 => exact HC131_3.out); rintro e w' ⟨rfl, ⟨nd, rfl⟩⟩; (try first | exact ⟨rfl, _, World.drewN_drewN _ _ _⟩ | exact ⟨rfl, _, Eq.trans (World.drewN_drewN _ _ _) (congrArg (World.drewN _) (Nat.add_assoc _ _ _))⟩)))
                    repeat (go_quiet (fail); try go_wp2_with (fail))
                    go_ret
                    exact ⟨by first | rfl | (simp [errW_none, errW_some] <;> rfl) | (simp [*, errW_none, errW_some] <;> rfl), by repeat (first | (with_reducible first | exact HB.out | apply below_alloc | apply pw_below_drewN | apply below_drew1 | refine below_set ?_ GE129.out | refine below_set ?_ GE132.out) | exact HB.out)⟩
                  ·rw [if_neg c16] at H
                   have c16b0 : (((rd_T32 ((rd_T26 l0 x5_1).f0) x6_2).f2).toList == ((rd_T32 ((rd_T26 l1 x5_1).f0) x6_2).f2).toList) = false := beq_eq_false_iff_ne.mpr c16
                   have c16b1 : (((rd_T32 ((rd_T26 l0 x5_1).f0) x6_2).f2).toList != ((rd_T32 ((rd_T26 l1 x5_1).f0) x6_2).f2).toList) = true := bne_iff_ne.mpr c16
                   obtain rfl := Option.some.inj H
                   have p126 : 0 ≤ (x5_1 : Int) := oa
                   have q126 : x5_1 < (l0.length : Int) := oa
                   obtain ⟨ad126, A126_0, c126_0, e126, hx126_0, hl126_0, hi126_0⟩ := at_T26 HR0.out x5_1 p126 q126
                   obtain rfl : ad124 = ad126 := (by injection e126)
                   replace hx126_0 := hbc HB.out hx126_0
                   have HR126_0 := Aside0.mk hi126_0
                   have HC126_0 := Aside0.mk hl126_0
                   clear hi126_0 hl126_0
                   replace p126 := eq_true p126
                   replace q126 := eq_true q126
                   have p127 : 0 ≤ (x5_1 : Int) := oa
                   have q127 : x5_1 < (l0.length : Int) := oa
                   obtain ⟨ad127, A127_0, c127_0, e127, hx127_0, hl127_0, hi127_0⟩ := at_T26 HR0.out x5_1 p127 q127
                   obtain rfl : ad124 = ad127 := (by injection e127)
                   replace hx127_0 := hbc HB.out hx127_0
                   have HR127_0 := Aside0.mk hi127_0
                   have HC127_0 := Aside0.mk hl127_0
                   clear hi127_0 hl127_0
                   replace p127 := eq_true p127
                   replace q127 := eq_true q127
                   have ea_ := Option.some.inj (hx126_0.symm.trans hx127_0)
                   injection ea_ with ea_ en_ ec_
                   subst ea_
                   subst ec_
                   clear en_
                   have p128 : 0 ≤ (x6_2 : Int) := oa
                   have q128 : x6_2 < (((rd_T26 l0 x5_1).f0).length : Int) := oa
                   obtain ⟨ad128, A128_3, c128_3, e128, hx128_0, hx128_1, hx128_2, hx128_3, hl128_3, hi128_3⟩ := at_T32 HR127_0.out x6_2 p128 q128
                   cases e128
                   replace hx128_0 := hbc HB.out hx128_0
                   replace hx128_1 := hbc HB.out hx128_1
                   replace hx128_2 := hbc HB.out hx128_2
                   replace hx128_3 := hbc HB.out hx128_3
                   have HR128_3 := Aside0.mk hi128_3
                   have HC128_3 := Aside0.mk hl128_3
                   clear hi128_3 hl128_3
                   replace p128 := eq_true p128
                   replace q128 := eq_true q128
                   go_wp2_with (first | ((with_reducible refine gate_dst (N := 7) rfl ?_); refine box_event ?hg (N := 7) ?hd (cs := #[.int .i64 0, .int .i64 0, .string (⟨#[]⟩ : ByteArray), .slice none 0 0]) (t := 32) ?hr ?_; (case hd => rfl); (case hg => rfl); (case hr => first | (go_simp; done) | (go_simp; rfl)); intro gb129 hg w31 hbox hb; have n0_ := Aside0.mk (below_step bw hb); have n1_ := Aside0.mk (hbox); have n2_ := Aside0.mk ((bz bw hg : w.heap.size ≤ gb129)); have n3_ := Aside0.mk ((bz bw hg : w.heap.size ≤ gb129)); clear HB; have HB := n0_; have BK129 := n1_; have GW129 := n2_; have GE129 := n3_; clear n0_ n1_ n2_ n3_; clear hb hbox hg; obtain ⟨hcz32_0, hcz32_1, hcz32_2, hcz32_3, hfz32_0, hfz32_1, hfz32_2, hfz32_3⟩ := bc4 BK129.out; have p130 : 0 ≤ (x5_1 : Int) := oa; have q130 : x5_1 < (l1.length : Int) := oa; obtain ⟨ad130, A130_0, c130_0, e130, hx130_0, hl130_0, hi130_0⟩ := at_T26 HR1.out x5_1 p130 q130; obtain rfl : ad125 = ad130 := (by injection e130); have hn130_0 : ad125.block ≠ gb129 := (by first | exact bn hx130_0 GW129.out | exact bm hx130_0 GW129.out); have hn130_1 : ad125.block ≠ gb129 := (by first | exact bn hx130_0 GW129.out | exact bm hx130_0 GW129.out); have hn130_2 : ad125.block ≠ gb129 := (by first | exact bn hx130_0 GW129.out | exact bm hx130_0 GW129.out); have hn130_3 : ad125.block ≠ gb129 := (by first | exact bn hx130_0 GW129.out | exact bm hx130_0 GW129.out); replace hx130_0 := hbc HB.out hx130_0; have HR130_0 := Aside0.mk hi130_0; have HC130_0 := Aside0.mk hl130_0; clear hi130_0 hl130_0; replace hx130_0 := fx ⟨gb129, 0, none⟩ (.int .i64 ((rd_T32 ((rd_T26 l0 x5_1).f0) x6_2).f0)) hx130_0; replace hx130_0 := fx ⟨gb129, 1, none⟩ (.int .i64 ((rd_T32 ((rd_T26 l0 x5_1).f0) x6_2).f1)) hx130_0; replace hx130_0 := fx ⟨gb129, 2, none⟩ (.string ((rd_T32 ((rd_T26 l0 x5_1).f0) x6_2).f2)) hx130_0; replace hx130_0 := fx ⟨gb129, 3, none⟩ (.slice A128_3 ((rd_T32 ((rd_T26 l0 x5_1).f0) x6_2).f3).length c128_3) hx130_0; (try have hy130_0 := dn4 hx130_0); clear hn130_0; clear hn130_1; clear hn130_2; clear hn130_3; replace p130 := eq_true p130; replace q130 := eq_true q130; have p131 : 0 ≤ (x6_2 : Int) := oa; have q131 : x6_2 < (((rd_T26 l1 x5_1).f0).length : Int) := oa; obtain ⟨ad131, A131_3, c131_3, e131, hx131_0, hx131_1, hx131_2, hx131_3, hl131_3, hi131_3⟩ := at_T32 HR130_0.out x6_2 p131 q131; cases e131; have hn131_0 : ad131.block ≠ gb129 := (by first | exact bn hx131_0 GW129.out | exact bm hx131_0 GW129.out); have hn131_1 : ad131.block ≠ gb129 := (by first | exact bn hx131_0 GW129.out | exact bm hx131_0 GW129.out); have hn131_2 : ad131.block ≠ gb129 := (by first | exact bn hx131_0 GW129.out | exact bm hx131_0 GW129.out); have hn131_3 : ad131.block ≠ gb129 := (by first | exact bn hx131_0 GW129.out | exact bm hx131_0 GW129.out); replace hx131_0 := hbc HB.out hx131_0; replace hx131_1 := hbc HB.out hx131_1; replace hx131_2 := hbc HB.out hx131_2; replace hx131_3 := hbc HB.out hx131_3; have HR131_3 := Aside0.mk hi131_3; have HC131_3 := Aside0.mk hl131_3; clear hi131_3 hl131_3; replace hx131_0 := fx ⟨gb129, 0, none⟩ (.int .i64 ((rd_T32 ((rd_T26 l0 x5_1).f0) x6_2).f0)) hx131_0; replace hx131_1 := fx ⟨gb129, 0, none⟩ (.int .i64 ((rd_T32 ((rd_T26 l0 x5_1).f0) x6_2).f0)) hx131_1; replace hx131_2 := fx ⟨gb129, 0, none⟩ (.int .i64 ((rd_T32 ((rd_T26 l0 x5_1).f0) x6_2).f0)) hx131_2; replace hx131_3 := fx ⟨gb129, 0, none⟩ (.int .i64 ((rd_T32 ((rd_T26 l0 x5_1).f0) x6_2).f0)) hx131_3; replace hx131_0 := fx ⟨gb129, 1, none⟩ (.int .i64 ((rd_T32 ((rd_T26 l0 x5_1).f0) x6_2).f1)) hx131_0; replace hx131_1 := fx ⟨gb129, 1, none⟩ (.int .i64 ((rd_T32 ((rd_T26 l0 x5_1).f0) x6_2).f1)) hx131_1; replace hx131_2 := fx ⟨gb129, 1, none⟩ (.int .i64 ((rd_T32 ((rd_T26 l0 x5_1).f0) x6_2).f1)) hx131_2; replace hx131_3 := fx ⟨gb129, 1, none⟩ (.int .i64 ((rd_T32 ((rd_T26 l0 x5_1).f0) x6_2).f1)) hx131_3; replace hx131_0 := fx ⟨gb129, 2, none⟩ (.string ((rd_T32 ((rd_T26 l0 x5_1).f0) x6_2).f2)) hx131_0; replace hx131_1 := fx ⟨gb129, 2, none⟩ (.string ((rd_T32 ((rd_T26 l0 x5_1).f0) x6_2).f2)) hx131_1; replace hx131_2 := fx ⟨gb129, 2, none⟩ (.string ((rd_T32 ((rd_T26 l0 x5_1).f0) x6_2).f2)) hx131_2; replace hx131_3 := fx ⟨gb129, 2, none⟩ (.string ((rd_T32 ((rd_T26 l0 x5_1).f0) x6_2).f2)) hx131_3; replace hx131_0 := fx ⟨gb129, 3, none⟩ (.slice A128_3 ((rd_T32 ((rd_T26 l0 x5_1).f0) x6_2).f3).length c128_3) hx131_0; replace hx131_1 := fx ⟨gb129, 3, none⟩ (.slice A128_3 ((rd_T32 ((rd_T26 l0 x5_1).f0) x6_2).f3).length c128_3) hx131_1; replace hx131_2 := fx ⟨gb129, 3, none⟩ (.slice A128_3 ((rd_T32 ((rd_T26 l0 x5_1).f0) x6_2).f3).length c128_3) hx131_2; replace hx131_3 := fx ⟨gb129, 3, none⟩ (.slice A128_3 ((rd_T32 ((rd_T26 l0 x5_1).f0) x6_2).f3).length c128_3) hx131_3; (try have hy131_0 := dn4 hx131_0); (try have hy131_1 := dn4 hx131_1); (try have hy131_2 := dn4 hx131_2); (try have hy131_3 := dn4 hx131_3); clear hn131_0; clear hn131_1; clear hn131_2; clear hn131_3; replace p131 := eq_true p131; replace q131 := eq_true q131) | ((with_reducible refine gate_dst (N := 8) rfl ?_); refine box_event ?hg (N := 8) ?hd (cs := #[.int .i64 0, .int .i64 0, .string (⟨#[]⟩ : ByteArray), .slice none 0 0]) (t := 32) ?hr ?_; (case hd => rfl); (case hg => rfl); (case hr => first | (go_simp; done) | (go_simp; rfl)); intro gb132 hg w33 hbox hb; have n0_ := Aside0.mk (blk_below (g := gb129) (o := .cells #[.int .i64 ((rd_T32 ((rd_T26 l0 x5_1).f0) x6_2).f0), .int .i64 ((rd_T32 ((rd_T26 l0 x5_1).f0) x6_2).f1), .string ((rd_T32 ((rd_T26 l0 x5_1).f0) x6_2).f2), .slice A128_3 ((rd_T32 ((rd_T26 l0 x5_1).f0) x6_2).f3).length c128_3] 32 (0, 0)) bx hb); have n1_ := Aside0.mk (below_step bw hb); have n2_ := Aside0.mk (hbox); have n3_ := Aside0.mk ((bz bw hg : w.heap.size ≤ gb132)); have n4_ := Aside0.mk ((bz bw hg : w.heap.size ≤ gb132)); have n5_ := Aside0.mk ((bl bx hg : gb129 ≠ gb132)); have n6_ := Aside0.mk ((bl' bx hg : gb132 ≠ gb129)); clear BK129; clear HB; have BK129 := n0_; have HB := n1_; have BK132 := n2_; have GW132 := n3_; have GE132 := n4_; have NB129_132 := n5_; have NB132_129 := n6_; clear n0_ n1_ n2_ n3_ n4_ n5_ n6_; clear hb hbox hg; have hnb34 := NB132_129.out; have hnc34 := NB129_132.out; obtain ⟨hcz35_0, hcz35_1, hcz35_2, hcz35_3, hfz35_0, hfz35_1, hfz35_2, hfz35_3⟩ := bc4 BK132.out; obtain ⟨hcz36_0, hcz36_1, hcz36_2, hcz36_3, hfz36_0, hfz36_1, hfz36_2, hfz36_3⟩ := bc4 BK129.out))
                   repeat (go_quiet (fail); try go_wp2_with (fail))
                   go_ret
                   exact ⟨by first | rfl | (simp [errW_none, errW_some] <;> rfl) | (simp [*, errW_none, errW_some] <;> rfl), by repeat (first | (with_reducible first | exact HB.out | apply below_alloc | apply pw_below_drewN | apply below_drew1 | refine below_set ?_ GE129.out | refine below_set ?_ GE132.out) | exact HB.out)⟩
                 ·rw [if_neg c15] at H
                  have c15b0 : (((rd_T32 ((rd_T26 l0 x5_1).f0) x6_2).f1) == ((rd_T32 ((rd_T26 l1 x5_1).f0) x6_2).f1)) = false := beq_eq_false_iff_ne.mpr c15
                  have c15b1 : (((rd_T32 ((rd_T26 l0 x5_1).f0) x6_2).f1) != ((rd_T32 ((rd_T26 l1 x5_1).f0) x6_2).f1)) = true := bne_iff_ne.mpr c15
                  obtain rfl := Option.some.inj H
                  have p126 : 0 ≤ (x5_1 : Int) := oa
                  have q126 : x5_1 < (l0.length : Int) := oa
                  obtain ⟨ad126, A126_0, c126_0, e126, hx126_0, hl126_0, hi126_0⟩ := at_T26 HR0.out x5_1 p126 q126
                  obtain rfl : ad124 = ad126 := (by injection e126)
                  replace hx126_0 := hbc HB.out hx126_0
                  have HR126_0 := Aside0.mk hi126_0
                  have HC126_0 := Aside0.mk hl126_0
                  clear hi126_0 hl126_0
                  replace p126 := eq_true p126
                  replace q126 := eq_true q126
                  have p127 : 0 ≤ (x5_1 : Int) := oa
                  have q127 : x5_1 < (l0.length : Int) := oa
                  obtain ⟨ad127, A127_0, c127_0, e127, hx127_0, hl127_0, hi127_0⟩ := at_T26 HR0.out x5_1 p127 q127
                  obtain rfl : ad124 = ad127 := (by injection e127)
                  replace hx127_0 := hbc HB.out hx127_0
                  have HR127_0 := Aside0.mk hi127_0
                  have HC127_0 := Aside0.mk hl127_0
                  clear hi127_0 hl127_0
                  replace p127 := eq_true p127
                  replace q127 := eq_true q127
                  have ea_ := Option.some.inj (hx126_0.symm.trans hx127_0)
                  injection ea_ with ea_ en_ ec_
                  subst ea_
                  subst ec_
                  clear en_
                  have p128 : 0 ≤ (x6_2 : Int) := oa
                  have q128 : x6_2 < (((rd_T26 l0 x5_1).f0).length : Int) := oa
                  obtain ⟨ad128, A128_3, c128_3, e128, hx128_0, hx128_1, hx128_2, hx128_3, hl128_3, hi128_3⟩ := at_T32 HR127_0.out x6_2 p128 q128
                  cases e128
                  replace hx128_0 := hbc HB.out hx128_0
                  replace hx128_1 := hbc HB.out hx128_1
                  replace hx128_2 := hbc HB.out hx128_2
                  replace hx128_3 := hbc HB.out hx128_3
                  have HR128_3 := Aside0.mk hi128_3
                  have HC128_3 := Aside0.mk hl128_3
                  clear hi128_3 hl128_3
                  replace p128 := eq_true p128
                  replace q128 := eq_true q128
                  go_wp2_with (first | ((with_reducible refine gate_dst (N := 7) rfl ?_); refine box_event ?hg (N := 7) ?hd (cs := #[.int .i64 0, .int .i64 0, .string (⟨#[]⟩ : ByteArray), .slice none 0 0]) (t := 32) ?hr ?_; (case hd => rfl); (case hg => rfl); (case hr => first | (go_simp; done) | (go_simp; rfl)); intro gb129 hg w37 hbox hb; have n0_ := Aside0.mk (below_step bw hb); have n1_ := Aside0.mk (hbox); have n2_ := Aside0.mk ((bz bw hg : w.heap.size ≤ gb129)); have n3_ := Aside0.mk ((bz bw hg : w.heap.size ≤ gb129)); clear HB; have HB := n0_; have BK129 := n1_; have GW129 := n2_; have GE129 := n3_; clear n0_ n1_ n2_ n3_; clear hb hbox hg; obtain ⟨hcz38_0, hcz38_1, hcz38_2, hcz38_3, hfz38_0, hfz38_1, hfz38_2, hfz38_3⟩ := bc4 BK129.out; have p130 : 0 ≤ (x5_1 : Int) := oa; have q130 : x5_1 < (l1.length : Int) := oa; obtain ⟨ad130, A130_0, c130_0, e130, hx130_0, hl130_0, hi130_0⟩ := at_T26 HR1.out x5_1 p130 q130; obtain rfl : ad125 = ad130 := (by injection e130); have hn130_0 : ad125.block ≠ gb129 := (by first | exact bn hx130_0 GW129.out | exact bm hx130_0 GW129.out); have hn130_1 : ad125.block ≠ gb129 := (by first | exact bn hx130_0 GW129.out | exact bm hx130_0 GW129.out); have hn130_2 : ad125.block ≠ gb129 := (by first | exact bn hx130_0 GW129.out | exact bm hx130_0 GW129.out); have hn130_3 : ad125.block ≠ gb129 := (by first | exact bn hx130_0 GW129.out | exact bm hx130_0 GW129.out); replace hx130_0 := hbc HB.out hx130_0; have HR130_0 := Aside0.mk hi130_0; have HC130_0 := Aside0.mk hl130_0; clear hi130_0 hl130_0; replace hx130_0 := fx ⟨gb129, 0, none⟩ (.int .i64 ((rd_T32 ((rd_T26 l0 x5_1).f0) x6_2).f0)) hx130_0; replace hx130_0 := fx ⟨gb129, 1, none⟩ (.int .i64 ((rd_T32 ((rd_T26 l0 x5_1).f0) x6_2).f1)) hx130_0; replace hx130_0 := fx ⟨gb129, 2, none⟩ (.string ((rd_T32 ((rd_T26 l0 x5_1).f0) x6_2).f2)) hx130_0; replace hx130_0 := fx ⟨gb129, 3, none⟩ (.slice A128_3 ((rd_T32 ((rd_T26 l0 x5_1).f0) x6_2).f3).length c128_3) hx130_0; (try have hy130_0 := dn4 hx130_0); clear hn130_0; clear hn130_1; clear hn130_2; clear hn130_3; replace p130 := eq_true p130; replace q130 := eq_true q130; have p131 : 0 ≤ (x6_2 : Int) := oa; have q131 : x6_2 < (((rd_T26 l1 x5_1).f0).length : Int) := oa; obtain ⟨ad131, A131_3, c131_3, e131, hx131_0, hx131_1, hx131_2, hx131_3, hl131_3, hi131_3⟩ := at_T32 HR130_0.out x6_2 p131 q131; cases e131; have hn131_0 : ad131.block ≠ gb129 := (by first | exact bn hx131_0 GW129.out | exact bm hx131_0 GW129.out); have hn131_1 : ad131.block ≠ gb129 := (by first | exact bn hx131_0 GW129.out | exact bm hx131_0 GW129.out); have hn131_2 : ad131.block ≠ gb129 := (by first | exact bn hx131_0 GW129.out | exact bm hx131_0 GW129.out); have hn131_3 : ad131.block ≠ gb129 := (by first | exact bn hx131_0 GW129.out | exact bm hx131_0 GW129.out); replace hx131_0 := hbc HB.out hx131_0; replace hx131_1 := hbc HB.out hx131_1; replace hx131_2 := hbc HB.out hx131_2; replace hx131_3 := hbc HB.out hx131_3; have HR131_3 := Aside0.mk hi131_3; have HC131_3 := Aside0.mk hl131_3; clear hi131_3 hl131_3; replace hx131_0 := fx ⟨gb129, 0, none⟩ (.int .i64 ((rd_T32 ((rd_T26 l0 x5_1).f0) x6_2).f0)) hx131_0; replace hx131_1 := fx ⟨gb129, 0, none⟩ (.int .i64 ((rd_T32 ((rd_T26 l0 x5_1).f0) x6_2).f0)) hx131_1; replace hx131_2 := fx ⟨gb129, 0, none⟩ (.int .i64 ((rd_T32 ((rd_T26 l0 x5_1).f0) x6_2).f0)) hx131_2; replace hx131_3 := fx ⟨gb129, 0, none⟩ (.int .i64 ((rd_T32 ((rd_T26 l0 x5_1).f0) x6_2).f0)) hx131_3; replace hx131_0 := fx ⟨gb129, 1, none⟩ (.int .i64 ((rd_T32 ((rd_T26 l0 x5_1).f0) x6_2).f1)) hx131_0; replace hx131_1 := fx ⟨gb129, 1, none⟩ (.int .i64 ((rd_T32 ((rd_T26 l0 x5_1).f0) x6_2).f1)) hx131_1; replace hx131_2 := fx ⟨gb129, 1, none⟩ (.int .i64 ((rd_T32 ((rd_T26 l0 x5_1).f0) x6_2).f1)) hx131_2; replace hx131_3 := fx ⟨gb129, 1, none⟩ (.int .i64 ((rd_T32 ((rd_T26 l0 x5_1).f0) x6_2).f1)) hx131_3; replace hx131_0 := fx ⟨gb129, 2, none⟩ (.string ((rd_T32 ((rd_T26 l0 x5_1).f0) x6_2).f2)) hx131_0; replace hx131_1 := fx ⟨gb129, 2, none⟩ (.string ((rd_T32 ((rd_T26 l0 x5_1).f0) x6_2).f2)) hx131_1; replace hx131_2 := fx ⟨gb129, 2, none⟩ (.string ((rd_T32 ((rd_T26 l0 x5_1).f0) x6_2).f2)) hx131_2; replace hx131_3 := fx ⟨gb129, 2, none⟩ (.string ((rd_T32 ((rd_T26 l0 x5_1).f0) x6_2).f2)) hx131_3; replace hx131_0 := fx ⟨gb129, 3, none⟩ (.slice A128_3 ((rd_T32 ((rd_T26 l0 x5_1).f0) x6_2).f3).length c128_3) hx131_0; replace hx131_1 := fx ⟨gb129, 3, none⟩ (.slice A128_3 ((rd_T32 ((rd_T26 l0 x5_1).f0) x6_2).f3).length c128_3) hx131_1; replace hx131_2 := fx ⟨gb129, 3, none⟩ (.slice A128_3 ((rd_T32 ((rd_T26 l0 x5_1).f0) x6_2).f3).length c128_3) hx131_2; replace hx131_3 := fx ⟨gb129, 3, none⟩ (.slice A128_3 ((rd_T32 ((rd_T26 l0 x5_1).f0) x6_2).f3).length c128_3) hx131_3; (try have hy131_0 := dn4 hx131_0); (try have hy131_1 := dn4 hx131_1); (try have hy131_2 := dn4 hx131_2); (try have hy131_3 := dn4 hx131_3); clear hn131_0; clear hn131_1; clear hn131_2; clear hn131_3; replace p131 := eq_true p131; replace q131 := eq_true q131) | ((with_reducible refine gate_dst (N := 8) rfl ?_); refine box_event ?hg (N := 8) ?hd (cs := #[.int .i64 0, .int .i64 0, .string (⟨#[]⟩ : ByteArray), .slice none 0 0]) (t := 32) ?hr ?_; (case hd => rfl); (case hg => rfl); (case hr => first | (go_simp; done) | (go_simp; rfl)); intro gb132 hg w39 hbox hb; have n0_ := Aside0.mk (blk_below (g := gb129) (o := .cells #[.int .i64 ((rd_T32 ((rd_T26 l0 x5_1).f0) x6_2).f0), .int .i64 ((rd_T32 ((rd_T26 l0 x5_1).f0) x6_2).f1), .string ((rd_T32 ((rd_T26 l0 x5_1).f0) x6_2).f2), .slice A128_3 ((rd_T32 ((rd_T26 l0 x5_1).f0) x6_2).f3).length c128_3] 32 (0, 0)) bx hb); have n1_ := Aside0.mk (below_step bw hb); have n2_ := Aside0.mk (hbox); have n3_ := Aside0.mk ((bz bw hg : w.heap.size ≤ gb132)); have n4_ := Aside0.mk ((bz bw hg : w.heap.size ≤ gb132)); have n5_ := Aside0.mk ((bl bx hg : gb129 ≠ gb132)); have n6_ := Aside0.mk ((bl' bx hg : gb132 ≠ gb129)); clear BK129; clear HB; have BK129 := n0_; have HB := n1_; have BK132 := n2_; have GW132 := n3_; have GE132 := n4_; have NB129_132 := n5_; have NB132_129 := n6_; clear n0_ n1_ n2_ n3_ n4_ n5_ n6_; clear hb hbox hg; have hnb40 := NB132_129.out; have hnc40 := NB129_132.out; obtain ⟨hcz41_0, hcz41_1, hcz41_2, hcz41_3, hfz41_0, hfz41_1, hfz41_2, hfz41_3⟩ := bc4 BK132.out; obtain ⟨hcz42_0, hcz42_1, hcz42_2, hcz42_3, hfz42_0, hfz42_1, hfz42_2, hfz42_3⟩ := bc4 BK129.out))
                  repeat (go_quiet (fail); try go_wp2_with (fail))
                  go_ret
                  exact ⟨by first | rfl | (simp [errW_none, errW_some] <;> rfl) | (simp [*, errW_none, errW_some] <;> rfl), by repeat (first | (with_reducible first | exact HB.out | apply below_alloc | apply pw_below_drewN | apply below_drew1 | refine below_set ?_ GE129.out | refine below_set ?_ GE132.out) | exact HB.out)⟩
                ·rw [if_neg c14] at H
                 have c14b0 : (((rd_T32 ((rd_T26 l0 x5_1).f0) x6_2).f0) == ((rd_T32 ((rd_T26 l1 x5_1).f0) x6_2).f0)) = false := beq_eq_false_iff_ne.mpr c14
                 have c14b1 : (((rd_T32 ((rd_T26 l0 x5_1).f0) x6_2).f0) != ((rd_T32 ((rd_T26 l1 x5_1).f0) x6_2).f0)) = true := bne_iff_ne.mpr c14
                 obtain rfl := Option.some.inj H
                 have p126 : 0 ≤ (x5_1 : Int) := oa
                 have q126 : x5_1 < (l0.length : Int) := oa
                 obtain ⟨ad126, A126_0, c126_0, e126, hx126_0, hl126_0, hi126_0⟩ := at_T26 HR0.out x5_1 p126 q126
                 obtain rfl : ad124 = ad126 := (by injection e126)
                 replace hx126_0 := hbc HB.out hx126_0
                 have HR126_0 := Aside0.mk hi126_0
                 have HC126_0 := Aside0.mk hl126_0
                 clear hi126_0 hl126_0
                 replace p126 := eq_true p126
                 replace q126 := eq_true q126
                 have p127 : 0 ≤ (x5_1 : Int) := oa
                 have q127 : x5_1 < (l0.length : Int) := oa
                 obtain ⟨ad127, A127_0, c127_0, e127, hx127_0, hl127_0, hi127_0⟩ := at_T26 HR0.out x5_1 p127 q127
                 obtain rfl : ad124 = ad127 := (by injection e127)
                 replace hx127_0 := hbc HB.out hx127_0
                 have HR127_0 := Aside0.mk hi127_0
                 have HC127_0 := Aside0.mk hl127_0
                 clear hi127_0 hl127_0
                 replace p127 := eq_true p127
                 replace q127 := eq_true q127
                 have ea_ := Option.some.inj (hx126_0.symm.trans hx127_0)
                 injection ea_ with ea_ en_ ec_
                 subst ea_
                 subst ec_
                 clear en_
                 have p128 : 0 ≤ (x6_2 : Int) := oa
                 have q128 : x6_2 < (((rd_T26 l0 x5_1).f0).length : Int) := oa
                 obtain ⟨ad128, A128_3, c128_3, e128, hx128_0, hx128_1, hx128_2, hx128_3, hl128_3, hi128_3⟩ := at_T32 HR127_0.out x6_2 p128 q128
                 cases e128
                 replace hx128_0 := hbc HB.out hx128_0
                 replace hx128_1 := hbc HB.out hx128_1
                 replace hx128_2 := hbc HB.out hx128_2
                 replace hx128_3 := hbc HB.out hx128_3
                 have HR128_3 := Aside0.mk hi128_3
                 have HC128_3 := Aside0.mk hl128_3
                 clear hi128_3 hl128_3
                 replace p128 := eq_true p128
                 replace q128 := eq_true q128
                 go_wp2_with (first | ((with_reducible refine gate_dst (N := 7) rfl ?_); refine box_event ?hg (N := 7) ?hd (cs := #[.int .i64 0, .int .i64 0, .string (⟨#[]⟩ : ByteArray), .slice none 0 0]) (t := 32) ?hr ?_; (case hd => rfl); (case hg => rfl); (case hr => first | (go_simp; done) | (go_simp; rfl)); intro gb129 hg w43 hbox hb; have n0_ := Aside0.mk (below_step bw hb); have n1_ := Aside0.mk (hbox); have n2_ := Aside0.mk ((bz bw hg : w.heap.size ≤ gb129)); have n3_ := Aside0.mk ((bz bw hg : w.heap.size ≤ gb129)); clear HB; have HB := n0_; have BK129 := n1_; have GW129 := n2_; have GE129 := n3_; clear n0_ n1_ n2_ n3_; clear hb hbox hg; obtain ⟨hcz44_0, hcz44_1, hcz44_2, hcz44_3, hfz44_0, hfz44_1, hfz44_2, hfz44_3⟩ := bc4 BK129.out; have p130 : 0 ≤ (x5_1 : Int) := oa; have q130 : x5_1 < (l1.length : Int) := oa; obtain ⟨ad130, A130_0, c130_0, e130, hx130_0, hl130_0, hi130_0⟩ := at_T26 HR1.out x5_1 p130 q130; obtain rfl : ad125 = ad130 := (by injection e130); have hn130_0 : ad125.block ≠ gb129 := (by first | exact bn hx130_0 GW129.out | exact bm hx130_0 GW129.out); have hn130_1 : ad125.block ≠ gb129 := (by first | exact bn hx130_0 GW129.out | exact bm hx130_0 GW129.out); have hn130_2 : ad125.block ≠ gb129 := (by first | exact bn hx130_0 GW129.out | exact bm hx130_0 GW129.out); have hn130_3 : ad125.block ≠ gb129 := (by first | exact bn hx130_0 GW129.out | exact bm hx130_0 GW129.out); replace hx130_0 := hbc HB.out hx130_0; have HR130_0 := Aside0.mk hi130_0; have HC130_0 := Aside0.mk hl130_0; clear hi130_0 hl130_0; replace hx130_0 := fx ⟨gb129, 0, none⟩ (.int .i64 ((rd_T32 ((rd_T26 l0 x5_1).f0) x6_2).f0)) hx130_0; replace hx130_0 := fx ⟨gb129, 1, none⟩ (.int .i64 ((rd_T32 ((rd_T26 l0 x5_1).f0) x6_2).f1)) hx130_0; replace hx130_0 := fx ⟨gb129, 2, none⟩ (.string ((rd_T32 ((rd_T26 l0 x5_1).f0) x6_2).f2)) hx130_0; replace hx130_0 := fx ⟨gb129, 3, none⟩ (.slice A128_3 ((rd_T32 ((rd_T26 l0 x5_1).f0) x6_2).f3).length c128_3) hx130_0; (try have hy130_0 := dn4 hx130_0); clear hn130_0; clear hn130_1; clear hn130_2; clear hn130_3; replace p130 := eq_true p130; replace q130 := eq_true q130; have p131 : 0 ≤ (x6_2 : Int) := oa; have q131 : x6_2 < (((rd_T26 l1 x5_1).f0).length : Int) := oa; obtain ⟨ad131, A131_3, c131_3, e131, hx131_0, hx131_1, hx131_2, hx131_3, hl131_3, hi131_3⟩ := at_T32 HR130_0.out x6_2 p131 q131; cases e131; have hn131_0 : ad131.block ≠ gb129 := (by first | exact bn hx131_0 GW129.out | exact bm hx131_0 GW129.out); have hn131_1 : ad131.block ≠ gb129 := (by first | exact bn hx131_0 GW129.out | exact bm hx131_0 GW129.out); have hn131_2 : ad131.block ≠ gb129 := (by first | exact bn hx131_0 GW129.out | exact bm hx131_0 GW129.out); have hn131_3 : ad131.block ≠ gb129 := (by first | exact bn hx131_0 GW129.out | exact bm hx131_0 GW129.out); replace hx131_0 := hbc HB.out hx131_0; replace hx131_1 := hbc HB.out hx131_1; replace hx131_2 := hbc HB.out hx131_2; replace hx131_3 := hbc HB.out hx131_3; have HR131_3 := Aside0.mk hi131_3; have HC131_3 := Aside0.mk hl131_3; clear hi131_3 hl131_3; replace hx131_0 := fx ⟨gb129, 0, none⟩ (.int .i64 ((rd_T32 ((rd_T26 l0 x5_1).f0) x6_2).f0)) hx131_0; replace hx131_1 := fx ⟨gb129, 0, none⟩ (.int .i64 ((rd_T32 ((rd_T26 l0 x5_1).f0) x6_2).f0)) hx131_1; replace hx131_2 := fx ⟨gb129, 0, none⟩ (.int .i64 ((rd_T32 ((rd_T26 l0 x5_1).f0) x6_2).f0)) hx131_2; replace hx131_3 := fx ⟨gb129, 0, none⟩ (.int .i64 ((rd_T32 ((rd_T26 l0 x5_1).f0) x6_2).f0)) hx131_3; replace hx131_0 := fx ⟨gb129, 1, none⟩ (.int .i64 ((rd_T32 ((rd_T26 l0 x5_1).f0) x6_2).f1)) hx131_0; replace hx131_1 := fx ⟨gb129, 1, none⟩ (.int .i64 ((rd_T32 ((rd_T26 l0 x5_1).f0) x6_2).f1)) hx131_1; replace hx131_2 := fx ⟨gb129, 1, none⟩ (.int .i64 ((rd_T32 ((rd_T26 l0 x5_1).f0) x6_2).f1)) hx131_2; replace hx131_3 := fx ⟨gb129, 1, none⟩ (.int .i64 ((rd_T32 ((rd_T26 l0 x5_1).f0) x6_2).f1)) hx131_3; replace hx131_0 := fx ⟨gb129, 2, none⟩ (.string ((rd_T32 ((rd_T26 l0 x5_1).f0) x6_2).f2)) hx131_0; replace hx131_1 := fx ⟨gb129, 2, none⟩ (.string ((rd_T32 ((rd_T26 l0 x5_1).f0) x6_2).f2)) hx131_1; replace hx131_2 := fx ⟨gb129, 2, none⟩ (.string ((rd_T32 ((rd_T26 l0 x5_1).f0) x6_2).f2)) hx131_2; replace hx131_3 := fx ⟨gb129, 2, none⟩ (.string ((rd_T32 ((rd_T26 l0 x5_1).f0) x6_2).f2)) hx131_3; replace hx131_0 := fx ⟨gb129, 3, none⟩ (.slice A128_3 ((rd_T32 ((rd_T26 l0 x5_1).f0) x6_2).f3).length c128_3) hx131_0; replace hx131_1 := fx ⟨gb129, 3, none⟩ (.slice A128_3 ((rd_T32 ((rd_T26 l0 x5_1).f0) x6_2).f3).length c128_3) hx131_1; replace hx131_2 := fx ⟨gb129, 3, none⟩ (.slice A128_3 ((rd_T32 ((rd_T26 l0 x5_1).f0) x6_2).f3).length c128_3) hx131_2; replace hx131_3 := fx ⟨gb129, 3, none⟩ (.slice A128_3 ((rd_T32 ((rd_T26 l0 x5_1).f0) x6_2).f3).length c128_3) hx131_3; (try have hy131_0 := dn4 hx131_0); (try have hy131_1 := dn4 hx131_1); (try have hy131_2 := dn4 hx131_2); (try have hy131_3 := dn4 hx131_3); clear hn131_0; clear hn131_1; clear hn131_2; clear hn131_3; replace p131 := eq_true p131; replace q131 := eq_true q131) | ((with_reducible refine gate_dst (N := 8) rfl ?_); refine box_event ?hg (N := 8) ?hd (cs := #[.int .i64 0, .int .i64 0, .string (⟨#[]⟩ : ByteArray), .slice none 0 0]) (t := 32) ?hr ?_; (case hd => rfl); (case hg => rfl); (case hr => first | (go_simp; done) | (go_simp; rfl)); intro gb132 hg w45 hbox hb; have n0_ := Aside0.mk (blk_below (g := gb129) (o := .cells #[.int .i64 ((rd_T32 ((rd_T26 l0 x5_1).f0) x6_2).f0), .int .i64 ((rd_T32 ((rd_T26 l0 x5_1).f0) x6_2).f1), .string ((rd_T32 ((rd_T26 l0 x5_1).f0) x6_2).f2), .slice A128_3 ((rd_T32 ((rd_T26 l0 x5_1).f0) x6_2).f3).length c128_3] 32 (0, 0)) bx hb); have n1_ := Aside0.mk (below_step bw hb); have n2_ := Aside0.mk (hbox); have n3_ := Aside0.mk ((bz bw hg : w.heap.size ≤ gb132)); have n4_ := Aside0.mk ((bz bw hg : w.heap.size ≤ gb132)); have n5_ := Aside0.mk ((bl bx hg : gb129 ≠ gb132)); have n6_ := Aside0.mk ((bl' bx hg : gb132 ≠ gb129)); clear BK129; clear HB; have BK129 := n0_; have HB := n1_; have BK132 := n2_; have GW132 := n3_; have GE132 := n4_; have NB129_132 := n5_; have NB132_129 := n6_; clear n0_ n1_ n2_ n3_ n4_ n5_ n6_; clear hb hbox hg; have hnb46 := NB132_129.out; have hnc46 := NB129_132.out; obtain ⟨hcz47_0, hcz47_1, hcz47_2, hcz47_3, hfz47_0, hfz47_1, hfz47_2, hfz47_3⟩ := bc4 BK132.out; obtain ⟨hcz48_0, hcz48_1, hcz48_2, hcz48_3, hfz48_0, hfz48_1, hfz48_2, hfz48_3⟩ := bc4 BK129.out))
                 repeat (go_quiet (fail); try go_wp2_with (fail))
                 go_ret
                 exact ⟨by first | rfl | (simp [errW_none, errW_some] <;> rfl) | (simp [*, errW_none, errW_some] <;> rfl), by repeat (first | (with_reducible first | exact HB.out | apply below_alloc | apply pw_below_drewN | apply below_drew1 | refine below_set ?_ GE129.out | refine below_set ?_ GE132.out) | exact HB.out)⟩
               ·rw [if_neg c13] at H
                exact absurd H (by simp)
              ·rw [if_neg c12] at H
               exact absurd H (by simp)
             ·rw [if_neg c11] at H
              exact absurd H (by simp)
            ·rw [if_neg c10] at H
             have c10b0 : decide (x6_2 < (((rd_T26 l0 x5_1).f0).length : Int)) = false := decide_eq_false c10
             clear c10
             have H' := Aside0.mk H
             clear H
             have p126 : 0 ≤ (x5_1 : Int) := oa
             have q126 : x5_1 < (l0.length : Int) := oa
             obtain ⟨ad126, A126_0, c126_0, e126, hx126_0, hl126_0, hi126_0⟩ := at_T26 HR0.out x5_1 p126 q126
             obtain rfl : ad124 = ad126 := (by injection e126)
             replace hx126_0 := hbc HB.out hx126_0
             have HR126_0 := Aside0.mk hi126_0
             have HC126_0 := Aside0.mk hl126_0
             clear hi126_0 hl126_0
             replace p126 := eq_true p126
             replace q126 := eq_true q126
             go_wp2
             repeat (go_quiet (fail); try go_wp2)
             go_roundg k2
             case measure => have := HK1.out; have := HK2.out; omega
             case rel => exact ⟨(wrap64 (x5_1 + 1)), (by first | rfl | (simp; done) | (simp [*]; done) | (simp [isE0, isE1]; done)), H', ⟨by have := HK1.out; have := HK2.out; omega⟩, ⟨by repeat (first | (with_reducible first | exact HB.out | apply below_alloc | apply pw_below_drewN | apply below_drew1) | exact HB.out)⟩⟩
           ·rw [if_neg c9] at H
            exact absurd H (by simp)
          ·rw [if_neg c8] at H
           exact absurd H (by simp)
       ·rw [if_neg c7] at H
        have c7b0 : ((((rd_T26 l0 x5_1).f0).length : Int) == (((rd_T26 l1 x5_1).f0).length : Int)) = false := beq_eq_false_iff_ne.mpr c7
        have c7b1 : ((((rd_T26 l0 x5_1).f0).length : Int) != (((rd_T26 l1 x5_1).f0).length : Int)) = true := bne_iff_ne.mpr c7
        have c7b2 : (((rd_T26 l0 x5_1).f0).length == ((rd_T26 l1 x5_1).f0).length) = false := by first | simpa using c7 | (simp at c7 ⊢; omega)
        obtain rfl := Option.some.inj H
        have p124 : 0 ≤ (x5_1 : Int) := oa
        have q124 : x5_1 < (l0.length : Int) := oa
        obtain ⟨ad124, A124_0, c124_0, e124, hx124_0, hl124_0, hi124_0⟩ := at_T26 HR0.out x5_1 p124 q124
        cases e124
        replace hx124_0 := hbc HB.out hx124_0
        have HR124_0 := Aside0.mk hi124_0
        have HC124_0 := Aside0.mk hl124_0
        clear hi124_0 hl124_0
        replace p124 := eq_true p124
        replace q124 := eq_true q124
        have p125 : 0 ≤ (x5_1 : Int) := oa
        have q125 : x5_1 < (l1.length : Int) := oa
        obtain ⟨ad125, A125_0, c125_0, e125, hx125_0, hl125_0, hi125_0⟩ := at_T26 HR1.out x5_1 p125 q125
        cases e125
        replace hx125_0 := hbc HB.out hx125_0
        have HR125_0 := Aside0.mk hi125_0
        have HC125_0 := Aside0.mk hl125_0
        clear hi125_0 hl125_0
        replace p125 := eq_true p125
        replace q125 := eq_true q125
        go_wp2
        repeat (go_quiet (fail); try go_wp2)
        go_ret
        exact ⟨by first | rfl | (simp [errW_none, errW_some] <;> rfl) | (simp [*, errW_none, errW_some] <;> rfl), by repeat (first | (with_reducible first | exact HB.out | apply below_alloc | apply pw_below_drewN | apply below_drew1) | exact HB.out)⟩
      ·rw [if_neg c6] at H
       exact absurd H (by simp)
     ·rw [if_neg c5] at H
      exact absurd H (by simp)
    ·rw [if_neg c4] at H
     have c4b0 : decide (x5_1 < (l0.length : Int)) = false := decide_eq_false c4
     clear c4
     obtain rfl := Option.some.inj H
     go_wp2
     repeat (go_quiet (fail); try go_wp2)
     go_ret
     exact ⟨by first | rfl | (simp [errW_none, errW_some] <;> rfl) | (simp [*, errW_none, errW_some] <;> rfl), by repeat (first | (with_reducible first | exact HB.out | apply below_alloc | apply pw_below_drewN | apply below_drew1) | exact HB.out)⟩
 ·rw [if_neg c3] at H
  have c3b0 : ((l0.length : Int) == (l1.length : Int)) = false := beq_eq_false_iff_ne.mpr c3
  have c3b1 : ((l0.length : Int) != (l1.length : Int)) = true := bne_iff_ne.mpr c3
  have c3b2 : (l0.length == l1.length) = false := by first | simpa using c3 | (simp at c3 ⊢; omega)
  obtain rfl := Option.some.inj H
  go_enter Try.func99, Try.ntmps99
  go_wp2
  repeat (go_quiet (fail); try go_wp2)
  go_ret
  exact ⟨by first | rfl | (simp [errW_none, errW_some] <;> rfl) | (simp [*, errW_none, errW_some] <;> rfl), by repeat (first | (with_reducible first | exact HB.out | apply below_alloc | apply pw_below_drewN | apply below_drew1) | exact HB.out)⟩

/-! ### spec_l11SameTexts: function 101 -/
def spec_l11SameTexts.l0 : Nat → List ByteArray → List ByteArray → Int → Option (Bool)
 | 0, _, _, _ => none
 | k + 1, x0, x1, x5 => if x5 < (x0.length : Int) then (if 0 ≤ x5 then (if x5 < (x1.length : Int) then (if (rdOf ByteArray.empty x0 x5).toList = (rdOf ByteArray.empty x1 x5).toList then (spec_l11SameTexts.l0 k x0 x1 (wrap64 (x5 + 1))) else (some false)) else (none)) else (none)) else (some true)
def spec_l11SameTexts.f (k : Nat) (l0 : List ByteArray) (l1 : List ByteArray) : Option (Bool) := if (l0.length : Int) = (l1.length : Int) then (spec_l11SameTexts.l0 k l0 l1 0) else (some false)
theorem spec_l11SameTexts.mono_l : ∀ k, (∀ y0 y1 y2, LeO (spec_l11SameTexts.l0 k y0 y1 y2) (spec_l11SameTexts.l0 (k + 1) y0 y1 y2))
 | 0 => fun _ _ _ r h => by simp [spec_l11SameTexts.l0] at h
 | k + 1 => by
  have ih0 := spec_l11SameTexts.mono_l k
  ·intro y0 y1 y2
   unfold spec_l11SameTexts.l0
   repeat' first
   | (with_reducible exact ih0 _ _ _)
   | (with_reducible exact LeO.refl _)
   | (with_reducible exact LeO.none _)
   | (with_reducible refine LeO.ite ?_ ?_)
   | (with_reducible refine LeO.bind ?_ (fun _ => ?_))
   | exact ih0 _ _ _
   | exact LeO.none _
   | refine LeO.ite ?_ ?_
   | refine LeO.bind ?_ (fun _ => ?_)
theorem spec_l11SameTexts.mono : ∀ a0 a1 k, LeO (spec_l11SameTexts.f k a0 a1) (spec_l11SameTexts.f (k + 1) a0 a1) := by
 intro a0 a1 k
 have ih0 := spec_l11SameTexts.mono_l k
 unfold spec_l11SameTexts.f
 repeat' first
   | (with_reducible exact ih0 _ _ _)
   | (with_reducible exact LeO.refl _)
   | (with_reducible exact LeO.none _)
   | (with_reducible refine LeO.ite ?_ ?_)
   | (with_reducible refine LeO.bind ?_ (fun _ => ?_))
   | exact ih0 _ _ _
   | exact LeO.none _
   | refine LeO.ite ?_ ?_
   | refine LeO.bind ?_ (fun _ => ?_)
set_option maxHeartbeats 8000000 in
set_option maxRecDepth 100000 in
theorem spec_l11SameTexts.calls (k : Nat) (A0 : Option Addr) (c0 : Nat) (l0 : List ByteArray) (A1 : Option Addr) (c1 : Nat) (l1 : List ByteArray) (r : Bool) (w : World) (hr0 : Kd.C Kd.string w A0 l0.length l0) (hc0 : l0.length ≤ c0) (hr1 : Kd.C Kd.string w A1 l1.length l1) (hc1 : l1.length ≤ c1) (h : spec_l11SameTexts.f k l0 l1 = some r) :
  Calls Try.prog 101 #[.slice A0 l0.length c0, .slice A1 l1.length c1] w fun e w' => e = .returned (.bool r) ∧ Drawn0 w w' := by
 have HR0 := Aside0.mk hr0
 have HC0 := Aside0.mk hc0
 clear hr0 hc0
 have HR1 := Aside0.mk hr1
 have HC1 := Aside0.mk hc1
 clear hr1 hc1
 have H : (if (l0.length : Int) = (l1.length : Int) then (spec_l11SameTexts.l0 k l0 l1 0) else (some false)) = some r := h
 clear h
 by_cases c3 : (l0.length : Int) = (l1.length : Int)
 ·rw [if_pos c3] at H
  have c3b0 : ((l0.length : Int) == (l1.length : Int)) = true := beq_iff_eq.mpr c3
  have c3b1 : ((l0.length : Int) != (l1.length : Int)) = false := bne_eq_false_iff_eq.mpr c3
  have c3b2 : (l0.length == l1.length) = true := by first | simpa using c3 | (simp at c3 ⊢; omega)
  clear c3
  have H' := Aside0.mk H
  clear H
  go_enter Try.func101, Try.ntmps101
  go_wp2
  repeat (go_quiet (fail); try go_wp2)
  go_loopg [5] k (fun kq v5 w' => ∃ (x5_1 : Int), v5 = .int .i64 x5_1 ∧ Aside0 (spec_l11SameTexts.l0 kq l0 l1 x5_1 = some r) ∧ Aside0 (kq ≤ k) ∧ Drawn0 w w')
  case atStart => exact ⟨(0), (by first | rfl | (simp; done) | (simp [*]; done) | (simp [isE0, isE1]; done)), H', ⟨Nat.le_refl _⟩, by repeat (first | exact Drawn0.refl _ | apply Drawn0.step)⟩
  case round =>
   clear H'
   try clear c1
   try clear p2
   try clear c3
   try clear c3b0
   try clear c3b1
   try clear c3b2
   obtain ⟨x5_1, rfl, HA, HK1, ⟨m1, rfl⟩⟩ := hrel
   cases gk with
   | zero => exact absurd HA.out (by simp [spec_l11SameTexts.l0])
   | succ k1 =>
    have H := HA.out
    clear HA
    simp only [spec_l11SameTexts.l0] at H
    by_cases c4 : x5_1 < (l0.length : Int)
    ·rw [if_pos c4] at H
     have c4b0 : decide (x5_1 < (l0.length : Int)) = true := decide_eq_true c4
     clear c4
     by_cases c5 : 0 ≤ x5_1
     ·rw [if_pos c5] at H
      have c5b0 : decide (0 ≤ x5_1) = true := decide_eq_true c5
      clear c5
      by_cases c6 : x5_1 < (l1.length : Int)
      ·rw [if_pos c6] at H
       have c6b0 : decide (x5_1 < (l1.length : Int)) = true := decide_eq_true c6
       clear c6
       by_cases c7 : (rdOf ByteArray.empty l0 x5_1).toList = (rdOf ByteArray.empty l1 x5_1).toList
       ·rw [if_pos c7] at H
        have c7b0 : ((rdOf ByteArray.empty l0 x5_1).toList == (rdOf ByteArray.empty l1 x5_1).toList) = true := beq_iff_eq.mpr c7
        have c7b1 : ((rdOf ByteArray.empty l0 x5_1).toList != (rdOf ByteArray.empty l1 x5_1).toList) = false := bne_eq_false_iff_eq.mpr c7
        clear c7
        have H' := Aside0.mk H
        clear H
        have p134 : 0 ≤ (x5_1 : Int) := oa
        have q134 : x5_1 < (l0.length : Int) := oa
        obtain ⟨ad134, e134, hx134_0⟩ := Kd.at_string HR0.out x5_1 p134 q134
        cases e134
        replace p134 := eq_true p134
        replace q134 := eq_true q134
        have p135 : 0 ≤ (x5_1 : Int) := oa
        have q135 : x5_1 < (l1.length : Int) := oa
        obtain ⟨ad135, e135, hx135_0⟩ := Kd.at_string HR1.out x5_1 p135 q135
        cases e135
        replace p135 := eq_true p135
        replace q135 := eq_true q135
        go_wp2
        repeat (go_quiet (fail); try go_wp2)
        go_roundg k1
        case measure => have := HK1.out; omega
        case rel => exact ⟨(wrap64 (x5_1 + 1)), (by first | rfl | (simp; done) | (simp [*]; done) | (simp [isE0, isE1]; done)), H', ⟨by have := HK1.out; omega⟩, by repeat (first | exact Drawn0.refl _ | apply Drawn0.step)⟩
       ·rw [if_neg c7] at H
        have c7b0 : ((rdOf ByteArray.empty l0 x5_1).toList == (rdOf ByteArray.empty l1 x5_1).toList) = false := beq_eq_false_iff_ne.mpr c7
        have c7b1 : ((rdOf ByteArray.empty l0 x5_1).toList != (rdOf ByteArray.empty l1 x5_1).toList) = true := bne_iff_ne.mpr c7
        obtain rfl := Option.some.inj H
        have p134 : 0 ≤ (x5_1 : Int) := oa
        have q134 : x5_1 < (l0.length : Int) := oa
        obtain ⟨ad134, e134, hx134_0⟩ := Kd.at_string HR0.out x5_1 p134 q134
        cases e134
        replace p134 := eq_true p134
        replace q134 := eq_true q134
        have p135 : 0 ≤ (x5_1 : Int) := oa
        have q135 : x5_1 < (l1.length : Int) := oa
        obtain ⟨ad135, e135, hx135_0⟩ := Kd.at_string HR1.out x5_1 p135 q135
        cases e135
        replace p135 := eq_true p135
        replace q135 := eq_true q135
        go_wp2
        repeat (go_quiet (fail); try go_wp2)
        go_ret
        exact ⟨by first | rfl | (simp; done) | (simp [*]; done) | (simp [isE0, isE1]; done), by repeat (first | exact Drawn0.refl _ | apply Drawn0.step)⟩
      ·rw [if_neg c6] at H
       exact absurd H (by simp)
     ·rw [if_neg c5] at H
      exact absurd H (by simp)
    ·rw [if_neg c4] at H
     have c4b0 : decide (x5_1 < (l0.length : Int)) = false := decide_eq_false c4
     clear c4
     obtain rfl := Option.some.inj H
     go_wp2
     repeat (go_quiet (fail); try go_wp2)
     go_ret
     exact ⟨by first | rfl | (simp; done) | (simp [*]; done) | (simp [isE0, isE1]; done), by repeat (first | exact Drawn0.refl _ | apply Drawn0.step)⟩
 ·rw [if_neg c3] at H
  have c3b0 : ((l0.length : Int) == (l1.length : Int)) = false := beq_eq_false_iff_ne.mpr c3
  have c3b1 : ((l0.length : Int) != (l1.length : Int)) = true := bne_iff_ne.mpr c3
  have c3b2 : (l0.length == l1.length) = false := by first | simpa using c3 | (simp at c3 ⊢; omega)
  obtain rfl := Option.some.inj H
  go_enter Try.func101, Try.ntmps101
  go_wp2
  repeat (go_quiet (fail); try go_wp2)
  go_ret
  exact ⟨by first | rfl | (simp; done) | (simp [*]; done) | (simp [isE0, isE1]; done), by repeat (first | exact Drawn0.refl _ | apply Drawn0.step)⟩

end Go.Proofs.Ytlkbdoejeomlmaa.PFnExactSameSurface
