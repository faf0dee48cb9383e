/- Written by a program of this session out of Lean's print of the translation: what the calls of these Go functions come to, in plain Lean. No condition. -/
import Derived.Test.YtlkbdoejeomlmaaPFnExactSameGrammarx0
import Derived.Test.YtlkbdoejeomlmaaPFnExactSameGrammarx6
namespace Go.Proofs.Ytlkbdoejeomlmaa.PFnExactSameGrammar
open Go.RowKit Go.Proofs.YtlkbdoejeomlmaaW.PrintWords Go.Proofs.YtlkbdoejeomlmaaW.PrintLast Go.Proofs.YtlkbdoejeomlmaaW.PrintMore
attribute [local go_sem] max2_int min2_int max_two min_two max_three min_three max_four min_four   -- for this text's walks alone
set_option linter.unusedVariables false
set_option linter.unusedSimpArgs false

/-! ### impl_ExNode: function 160 -/
def impl_ExNode.l0 : Nat → List (S32) → List (S32) → Int → Int → Option (Bool)
  | 0, _, _, _, _ => none
  | k + 1, x1, x15, x16, x17 => if x17 < x16 then (if 0 ≤ x17 then (if x17 < (x15.length : Int) then (if x17 < (x1.length : Int) then ((impl_sameExpr_1.f k ((rd_T32 x15 x17).f0) ((rd_T32 x15 x17).f1) ((rd_T32 x15 x17).f2) ((rd_T32 x15 x17).f3) ((rd_T32 x1 x17).f0) ((rd_T32 x1 x17).f1) ((rd_T32 x1 x17).f2) ((rd_T32 x1 x17).f3)).bind fun t266 => (if t266 = true then (impl_ExNode.l0 k x1 x15 x16 (wrap64 (x17 + 1))) else (some false))) else (none)) else (none)) else (none)) else (some true)
def impl_ExNode.f (k : Nat) (l0 : List (S32)) (l1 : List (S32)) (a2 : Int) : Option (Bool) := if (l0.length : Int) = (l1.length : Int) then (impl_ExNode.l0 k l1 l0 (l0.length : Int) 0) else (some false)
theorem impl_ExNode.mono_l : ∀ k, (∀ y0 y1 y2 y3, LeO (impl_ExNode.l0 k y0 y1 y2 y3) (impl_ExNode.l0 (k + 1) y0 y1 y2 y3))
  | 0 => fun _ _ _ _ r h => by simp [impl_ExNode.l0] at h
  | k + 1 => by
    have ih0 := impl_ExNode.mono_l k
    · intro y0 y1 y2 y3
      unfold impl_ExNode.l0
      repeat' first
      | (with_reducible exact ih0 _ _ _ _)
      | (with_reducible exact impl_sameExpr_1.mono _ _ _ _ _ _ _ _ _)
      | (with_reducible exact LeO.refl _)
      | (with_reducible exact LeO.none _)
      | (with_reducible refine LeO.ite ?_ ?_)
      | (with_reducible refine LeO.bind ?_ (fun _ => ?_))
      | exact ih0 _ _ _ _
      | exact impl_sameExpr_1.mono _ _ _ _ _ _ _ _ _
      | exact LeO.none _
      | refine LeO.ite ?_ ?_
      | refine LeO.bind ?_ (fun _ => ?_)
theorem impl_ExNode.mono : ∀ a0 a1 a2 k, LeO (impl_ExNode.f k a0 a1 a2) (impl_ExNode.f (k + 1) a0 a1 a2) := by
  intro a0 a1 a2 k
  have ih0 := impl_ExNode.mono_l k
  unfold impl_ExNode.f
  repeat' first
      | (with_reducible exact ih0 _ _ _ _)
      | (with_reducible exact impl_sameExpr_1.mono _ _ _ _ _ _ _ _ _)
      | (with_reducible exact LeO.refl _)
      | (with_reducible exact LeO.none _)
      | (with_reducible refine LeO.ite ?_ ?_)
      | (with_reducible refine LeO.bind ?_ (fun _ => ?_))
      | exact ih0 _ _ _ _
      | exact impl_sameExpr_1.mono _ _ _ _ _ _ _ _ _
      | exact LeO.none _
      | refine LeO.ite ?_ ?_
      | refine LeO.bind ?_ (fun _ => ?_)
set_option maxHeartbeats 8000000 in
set_option maxRecDepth 100000 in
theorem impl_ExNode.calls (k : Nat) (A0 : Option Addr) (c0 : Nat) (l0 : List (S32)) (A1 : Option Addr) (c1 : Nat) (l1 : List (S32)) (a2 : Int) (r : Bool) (w : World) (hr0 : Kd.C k32 w A0 l0.length l0) (hc0 : l0.length ≤ c0) (hr1 : Kd.C k32 w A1 l1.length l1) (hc1 : l1.length ≤ c1) (h : impl_ExNode.f k l0 l1 a2 = some r) :
    Calls Try.prog 160 #[.slice A0 l0.length c0, .slice A1 l1.length c1, .func (.func 161) #[] #[]] w fun e w' => e = .returned (.bool r) ∧ Below w.heap.size w w' := by
  have hu32 := Try.underlying32
  have HR0 := Aside0.mk hr0
  have HC0 := Aside0.mk hc0
  clear hr0 hc0
  have HR1 := Aside0.mk hr1
  have HC1 := Aside0.mk hc1
  clear hr1 hc1
  have HB := Aside0.mk (Below.refl w.heap.size w)
  have H : (if (l0.length : Int) = (l1.length : Int) then (impl_ExNode.l0 k l1 l0 (l0.length : Int) 0) else (some false)) = some r := h
  clear h
  by_cases c4 : (l0.length : Int) = (l1.length : Int)
  · rw [if_pos c4] at H
    have c4b0 : ((l0.length : Int) == (l1.length : Int)) = true := beq_iff_eq.mpr c4
    have c4b1 : ((l0.length : Int) != (l1.length : Int)) = false := bne_eq_false_iff_eq.mpr c4
    have c4b2 : (l0.length == l1.length) = true := by first | simpa using c4 | (simp at c4 ⊢; omega)
    clear c4
    have H' := Aside0.mk H
    clear H
    go_enter Try.func160, Try.ntmps160
    go_wp2
    go_loopg [17] k (fun kq v17 w' => ∃ (x17_1 : Int), v17 = .int .i64 x17_1 ∧ Aside0 (impl_ExNode.l0 kq l1 l0 (l0.length : Int) x17_1 = some r) ∧ Aside0 (kq ≤ k) ∧ Aside0 (Below w.heap.size w w'))
    case atStart => exact ⟨(0), (by first | rfl | (simp; done) | (simp [*]; done) | (simp [isE0, isE1]; done)), H', ⟨Nat.le_refl _⟩, ⟨by repeat (first | (with_reducible first | exact HB.out | apply below_alloc | apply pw_below_drewN | apply below_drew1) | exact HB.out)⟩⟩
    case round =>
      clear H'
      try clear c1
      try clear p2
      try clear c4
      try clear c4b0
      try clear c4b1
      try clear c4b2
      obtain ⟨x17_1, rfl, HA, HK1, HB⟩ := hrel
      cases gk with
      | zero => exact absurd HA.out (by simp [impl_ExNode.l0])
      | succ k1 =>
        have H := HA.out
        clear HA
        simp only [impl_ExNode.l0] at H
        by_cases c5 : x17_1 < (l0.length : Int)
        · rw [if_pos c5] at H
          have c5b0 : decide (x17_1 < (l0.length : Int)) = true := decide_eq_true c5
          clear c5
          by_cases c6 : 0 ≤ x17_1
          · rw [if_pos c6] at H
            have c6b0 : decide (0 ≤ x17_1) = true := decide_eq_true c6
            clear c6
            by_cases c7 : x17_1 < (l0.length : Int)
            · rw [if_pos c7] at H
              have c7b0 : decide (x17_1 < (l0.length : Int)) = true := decide_eq_true c7
              clear c7
              by_cases c8 : x17_1 < (l1.length : Int)
              · rw [if_pos c8] at H
                have c8b0 : decide (x17_1 < (l1.length : Int)) = true := decide_eq_true c8
                clear c8
                replace H := Option.bind_eq_some_iff.mp H
                obtain ⟨t266, A90, H⟩ := H
                replace H : (if t266 = true then (impl_ExNode.l0 k1 l1 l0 (l0.length : Int) (wrap64 (x17_1 + 1))) else (some false)) = some r := H
                have A9 := Aside0.mk A90
                clear A90
                by_cases c10 : t266 = true
                · subst c10
                  have H1 : (impl_ExNode.l0 k1 l1 l0 (l0.length : Int) (wrap64 (x17_1 + 1))) = some r := by rw [if_pos rfl] at H; exact H
                  clear H
                  have H := H1
                  clear H1
                  have H' := Aside0.mk H
                  clear H
                  have p262 : 0 ≤ (x17_1 : Int) := oa
                  have q262 : x17_1 < (l0.length : Int) := oa
                  obtain ⟨ad262, A262_3, c262_3, e262, hx262_0, hx262_1, hx262_2, hx262_3, hl262_3, hi262_3⟩ := at_T32 HR0.out x17_1 p262 q262
                  cases e262
                  replace hx262_0 := hbc HB.out hx262_0
                  replace hx262_1 := hbc HB.out hx262_1
                  replace hx262_2 := hbc HB.out hx262_2
                  replace hx262_3 := hbc HB.out hx262_3
                  have HR262_3 := Aside0.mk hi262_3
                  have HC262_3 := Aside0.mk hl262_3
                  clear hi262_3 hl262_3
                  replace p262 := eq_true p262
                  replace q262 := eq_true q262
                  go_wp2_with (first | ((with_reducible refine gate_dst (N := 8) rfl ?_); refine box_event ?hg (N := 8) ?hd (cs := #[.int .i64 0, .int .i64 0, .string (⟨#[]⟩ : ByteArray), .slice none 0 0]) (t := 32) ?hr ?_; (case hd => rfl); (case hg => rfl); (case hr => first | (go_simp; done) | (go_simp; rfl)); intro gb263 hg w11 hbox hb; have n0_ := Aside0.mk (below_step bw hb); have n1_ := Aside0.mk (hbox); have n2_ := Aside0.mk ((bz bw hg : w.heap.size ≤ gb263)); have n3_ := Aside0.mk ((bz bw hg : w.heap.size ≤ gb263)); clear HB; have HB := n0_; have BK263 := n1_; have GW263 := n2_; have GE263 := n3_; clear n0_ n1_ n2_ n3_; clear hb hbox hg; obtain ⟨hcz12_0, hcz12_1, hcz12_2, hcz12_3, hfz12_0, hfz12_1, hfz12_2, hfz12_3⟩ := bc4 BK263.out; have p264 : 0 ≤ (x17_1 : Int) := oa; have q264 : x17_1 < (l1.length : Int) := oa; obtain ⟨ad264, A264_3, c264_3, e264, hx264_0, hx264_1, hx264_2, hx264_3, hl264_3, hi264_3⟩ := at_T32 HR1.out x17_1 p264 q264; cases e264; have hn264_0 : ad264.block ≠ gb263 := (by first | exact bn hx264_0 GW263.out | exact bm hx264_0 GW263.out); have hn264_1 : ad264.block ≠ gb263 := (by first | exact bn hx264_0 GW263.out | exact bm hx264_0 GW263.out); have hn264_2 : ad264.block ≠ gb263 := (by first | exact bn hx264_0 GW263.out | exact bm hx264_0 GW263.out); have hn264_3 : ad264.block ≠ gb263 := (by first | exact bn hx264_0 GW263.out | exact bm hx264_0 GW263.out); replace hx264_0 := hbc HB.out hx264_0; replace hx264_1 := hbc HB.out hx264_1; replace hx264_2 := hbc HB.out hx264_2; replace hx264_3 := hbc HB.out hx264_3; have HR264_3 := Aside0.mk hi264_3; have HC264_3 := Aside0.mk hl264_3; clear hi264_3 hl264_3; replace hx264_0 := fx ⟨gb263, 0, none⟩ (.int .i64 ((rd_T32 l0 x17_1).f0)) hx264_0; replace hx264_1 := fx ⟨gb263, 0, none⟩ (.int .i64 ((rd_T32 l0 x17_1).f0)) hx264_1; replace hx264_2 := fx ⟨gb263, 0, none⟩ (.int .i64 ((rd_T32 l0 x17_1).f0)) hx264_2; replace hx264_3 := fx ⟨gb263, 0, none⟩ (.int .i64 ((rd_T32 l0 x17_1).f0)) hx264_3; replace hx264_0 := fx ⟨gb263, 1, none⟩ (.int .i64 ((rd_T32 l0 x17_1).f1)) hx264_0; replace hx264_1 := fx ⟨gb263, 1, none⟩ (.int .i64 ((rd_T32 l0 x17_1).f1)) hx264_1; replace hx264_2 := fx ⟨gb263, 1, none⟩ (.int .i64 ((rd_T32 l0 x17_1).f1)) hx264_2; replace hx264_3 := fx ⟨gb263, 1, none⟩ (.int .i64 ((rd_T32 l0 x17_1).f1)) hx264_3; replace hx264_0 := fx ⟨gb263, 2, none⟩ (.string ((rd_T32 l0 x17_1).f2)) hx264_0; replace hx264_1 := fx ⟨gb263, 2, none⟩ (.string ((rd_T32 l0 x17_1).f2)) hx264_1; replace hx264_2 := fx ⟨gb263, 2, none⟩ (.string ((rd_T32 l0 x17_1).f2)) hx264_2; replace hx264_3 := fx ⟨gb263, 2, none⟩ (.string ((rd_T32 l0 x17_1).f2)) hx264_3; replace hx264_0 := fx ⟨gb263, 3, none⟩ (.slice A262_3 ((rd_T32 l0 x17_1).f3).length c262_3) hx264_0; replace hx264_1 := fx ⟨gb263, 3, none⟩ (.slice A262_3 ((rd_T32 l0 x17_1).f3).length c262_3) hx264_1; replace hx264_2 := fx ⟨gb263, 3, none⟩ (.slice A262_3 ((rd_T32 l0 x17_1).f3).length c262_3) hx264_2; replace hx264_3 := fx ⟨gb263, 3, none⟩ (.slice A262_3 ((rd_T32 l0 x17_1).f3).length c262_3) hx264_3; clear hn264_0; clear hn264_1; clear hn264_2; clear hn264_3; replace p264 := eq_true p264; replace q264 := eq_true q264) | ((with_reducible refine gate_dst (N := 9) rfl ?_); refine box_event ?hg (N := 9) ?hd (cs := #[.int .i64 0, .int .i64 0, .string (⟨#[]⟩ : ByteArray), .slice none 0 0]) (t := 32) ?hr ?_; (case hd => rfl); (case hg => rfl); (case hr => first | (go_simp; done) | (go_simp; rfl)); intro gb265 hg w13 hbox hb; have n0_ := Aside0.mk (blk_below (g := gb263) (o := .cells #[.int .i64 ((rd_T32 l0 x17_1).f0), .int .i64 ((rd_T32 l0 x17_1).f1), .string ((rd_T32 l0 x17_1).f2), .slice A262_3 ((rd_T32 l0 x17_1).f3).length c262_3] 32 (0, 0)) bx hb); have n1_ := Aside0.mk (below_step bw hb); have n2_ := Aside0.mk (hbox); have n3_ := Aside0.mk ((bz bw hg : w.heap.size ≤ gb265)); have n4_ := Aside0.mk ((bz bw hg : w.heap.size ≤ gb265)); have n5_ := Aside0.mk ((bl bx hg : gb263 ≠ gb265)); have n6_ := Aside0.mk ((bl' bx hg : gb265 ≠ gb263)); clear BK263; clear HB; have BK263 := n0_; have HB := n1_; have BK265 := n2_; have GW265 := n3_; have GE265 := n4_; have NB263_265 := n5_; have NB265_263 := n6_; clear n0_ n1_ n2_ n3_ n4_ n5_ n6_; clear hb hbox hg; have hnb14 := NB265_263.out; have hnc14 := NB263_265.out; obtain ⟨hcz15_0, hcz15_1, hcz15_2, hcz15_3, hfz15_0, hfz15_1, hfz15_2, hfz15_3⟩ := bc4 BK265.out; obtain ⟨hcz16_0, hcz16_1, hcz16_2, hcz16_3, hfz16_0, hfz16_1, hfz16_2, hfz16_3⟩ := bc4 BK263.out) | (go_at_call 161; (with_reducible refine (impl_sameExpr_1.calls k1 ((rd_T32 l0 x17_1).f0) ((rd_T32 l0 x17_1).f1) ((rd_T32 l0 x17_1).f2) _ _ ((rd_T32 l0 x17_1).f3) ((rd_T32 l1 x17_1).f0) ((rd_T32 l1 x17_1).f1) ((rd_T32 l1 x17_1).f2) _ _ ((rd_T32 l1 x17_1).f3) true _ ?side1 ?side2 ?side3 ?side4 A9.out).mono ?_); (case side1 => exact Kd.C_below HR262_3.out bw); (case side2 => exact HC262_3.out); (case side3 => exact Kd.C_below HR264_3.out bw); (case side4 => exact HC264_3.out); rintro e w17 ⟨rfl, hb⟩; have n0_ := Aside0.mk (blk_below (g := gb263) (o := .cells #[.int .i64 ((rd_T32 l0 x17_1).f0), .int .i64 ((rd_T32 l0 x17_1).f1), .string ((rd_T32 l0 x17_1).f2), .slice A262_3 ((rd_T32 l0 x17_1).f3).length c262_3] 32 (0, 0)) bx hb); have n1_ := Aside0.mk (blk_below (g := gb265) (o := .cells #[.int .i64 ((rd_T32 l1 x17_1).f0), .int .i64 ((rd_T32 l1 x17_1).f1), .string ((rd_T32 l1 x17_1).f2), .slice A264_3 ((rd_T32 l1 x17_1).f3).length c264_3] 32 (0, 0)) bx hb); have n2_ := Aside0.mk (below_step bw hb); clear BK263; clear BK265; clear HB; have BK263 := n0_; have BK265 := n1_; have HB := n2_; clear n0_ n1_ n2_; (try clear hb); (try clear hb2); (try clear hk); (try clear hi)))
                  go_roundg k1
                  case measure => have := HK1.out; omega
                  case rel => exact ⟨(wrap64 (x17_1 + 1)), (by first | rfl | (simp; done) | (simp [*]; done) | (simp [isE0, isE1]; done)), H', ⟨by have := HK1.out; omega⟩, ⟨by repeat (first | (with_reducible first | exact HB.out | apply below_alloc | apply pw_below_drewN | apply below_drew1 | refine below_set ?_ GE263.out | refine below_set ?_ GE265.out) | exact HB.out)⟩⟩
                · replace c10 := Bool.eq_false_iff.mpr c10
                  subst c10
                  have H1 : (some false) = some r := by rw [if_neg (show ¬ (false = true) by decide)] at H; exact H
                  clear H
                  have H := H1
                  clear H1
                  obtain rfl := Option.some.inj H
                  have p262 : 0 ≤ (x17_1 : Int) := oa
                  have q262 : x17_1 < (l0.length : Int) := oa
                  obtain ⟨ad262, A262_3, c262_3, e262, hx262_0, hx262_1, hx262_2, hx262_3, hl262_3, hi262_3⟩ := at_T32 HR0.out x17_1 p262 q262
                  cases e262
                  replace hx262_0 := hbc HB.out hx262_0
                  replace hx262_1 := hbc HB.out hx262_1
                  replace hx262_2 := hbc HB.out hx262_2
                  replace hx262_3 := hbc HB.out hx262_3
                  have HR262_3 := Aside0.mk hi262_3
                  have HC262_3 := Aside0.mk hl262_3
                  clear hi262_3 hl262_3
                  replace p262 := eq_true p262
                  replace q262 := eq_true q262
                  go_wp2_with (first | ((with_reducible refine gate_dst (N := 8) rfl ?_); refine box_event ?hg (N := 8) ?hd (cs := #[.int .i64 0, .int .i64 0, .string (⟨#[]⟩ : ByteArray), .slice none 0 0]) (t := 32) ?hr ?_; (case hd => rfl); (case hg => rfl); (case hr => first | (go_simp; done) | (go_simp; rfl)); intro gb263 hg w18 hbox hb; have n0_ := Aside0.mk (below_step bw hb); have n1_ := Aside0.mk (hbox); have n2_ := Aside0.mk ((bz bw hg : w.heap.size ≤ gb263)); have n3_ := Aside0.mk ((bz bw hg : w.heap.size ≤ gb263)); clear HB; have HB := n0_; have BK263 := n1_; have GW263 := n2_; have GE263 := n3_; clear n0_ n1_ n2_ n3_; clear hb hbox hg; obtain ⟨hcz19_0, hcz19_1, hcz19_2, hcz19_3, hfz19_0, hfz19_1, hfz19_2, hfz19_3⟩ := bc4 BK263.out; have p264 : 0 ≤ (x17_1 : Int) := oa; have q264 : x17_1 < (l1.length : Int) := oa; obtain ⟨ad264, A264_3, c264_3, e264, hx264_0, hx264_1, hx264_2, hx264_3, hl264_3, hi264_3⟩ := at_T32 HR1.out x17_1 p264 q264; cases e264; have hn264_0 : ad264.block ≠ gb263 := (by first | exact bn hx264_0 GW263.out | exact bm hx264_0 GW263.out); have hn264_1 : ad264.block ≠ gb263 := (by first | exact bn hx264_0 GW263.out | exact bm hx264_0 GW263.out); have hn264_2 : ad264.block ≠ gb263 := (by first | exact bn hx264_0 GW263.out | exact bm hx264_0 GW263.out); have hn264_3 : ad264.block ≠ gb263 := (by first | exact bn hx264_0 GW263.out | exact bm hx264_0 GW263.out); replace hx264_0 := hbc HB.out hx264_0; replace hx264_1 := hbc HB.out hx264_1; replace hx264_2 := hbc HB.out hx264_2; replace hx264_3 := hbc HB.out hx264_3; have HR264_3 := Aside0.mk hi264_3; have HC264_3 := Aside0.mk hl264_3; clear hi264_3 hl264_3; replace hx264_0 := fx ⟨gb263, 0, none⟩ (.int .i64 ((rd_T32 l0 x17_1).f0)) hx264_0; replace hx264_1 := fx ⟨gb263, 0, none⟩ (.int .i64 ((rd_T32 l0 x17_1).f0)) hx264_1; replace hx264_2 := fx ⟨gb263, 0, none⟩ (.int .i64 ((rd_T32 l0 x17_1).f0)) hx264_2; replace hx264_3 := fx ⟨gb263, 0, none⟩ (.int .i64 ((rd_T32 l0 x17_1).f0)) hx264_3; replace hx264_0 := fx ⟨gb263, 1, none⟩ (.int .i64 ((rd_T32 l0 x17_1).f1)) hx264_0; replace hx264_1 := fx ⟨gb263, 1, none⟩ (.int .i64 ((rd_T32 l0 x17_1).f1)) hx264_1; replace hx264_2 := fx ⟨gb263, 1, none⟩ (.int .i64 ((rd_T32 l0 x17_1).f1)) hx264_2; replace hx264_3 := fx ⟨gb263, 1, none⟩ (.int .i64 ((rd_T32 l0 x17_1).f1)) hx264_3; replace hx264_0 := fx ⟨gb263, 2, none⟩ (.string ((rd_T32 l0 x17_1).f2)) hx264_0; replace hx264_1 := fx ⟨gb263, 2, none⟩ (.string ((rd_T32 l0 x17_1).f2)) hx264_1; replace hx264_2 := fx ⟨gb263, 2, none⟩ (.string ((rd_T32 l0 x17_1).f2)) hx264_2; replace hx264_3 := fx ⟨gb263, 2, none⟩ (.string ((rd_T32 l0 x17_1).f2)) hx264_3; replace hx264_0 := fx ⟨gb263, 3, none⟩ (.slice A262_3 ((rd_T32 l0 x17_1).f3).length c262_3) hx264_0; replace hx264_1 := fx ⟨gb263, 3, none⟩ (.slice A262_3 ((rd_T32 l0 x17_1).f3).length c262_3) hx264_1; replace hx264_2 := fx ⟨gb263, 3, none⟩ (.slice A262_3 ((rd_T32 l0 x17_1).f3).length c262_3) hx264_2; replace hx264_3 := fx ⟨gb263, 3, none⟩ (.slice A262_3 ((rd_T32 l0 x17_1).f3).length c262_3) hx264_3; clear hn264_0; clear hn264_1; clear hn264_2; clear hn264_3; replace p264 := eq_true p264; replace q264 := eq_true q264) | ((with_reducible refine gate_dst (N := 9) rfl ?_); refine box_event ?hg (N := 9) ?hd (cs := #[.int .i64 0, .int .i64 0, .string (⟨#[]⟩ : ByteArray), .slice none 0 0]) (t := 32) ?hr ?_; (case hd => rfl); (case hg => rfl); (case hr => first | (go_simp; done) | (go_simp; rfl)); intro gb265 hg w20 hbox hb; have n0_ := Aside0.mk (blk_below (g := gb263) (o := .cells #[.int .i64 ((rd_T32 l0 x17_1).f0), .int .i64 ((rd_T32 l0 x17_1).f1), .string ((rd_T32 l0 x17_1).f2), .slice A262_3 ((rd_T32 l0 x17_1).f3).length c262_3] 32 (0, 0)) bx hb); have n1_ := Aside0.mk (below_step bw hb); have n2_ := Aside0.mk (hbox); have n3_ := Aside0.mk ((bz bw hg : w.heap.size ≤ gb265)); have n4_ := Aside0.mk ((bz bw hg : w.heap.size ≤ gb265)); have n5_ := Aside0.mk ((bl bx hg : gb263 ≠ gb265)); have n6_ := Aside0.mk ((bl' bx hg : gb265 ≠ gb263)); clear BK263; clear HB; have BK263 := n0_; have HB := n1_; have BK265 := n2_; have GW265 := n3_; have GE265 := n4_; have NB263_265 := n5_; have NB265_263 := n6_; clear n0_ n1_ n2_ n3_ n4_ n5_ n6_; clear hb hbox hg; have hnb21 := NB265_263.out; have hnc21 := NB263_265.out; obtain ⟨hcz22_0, hcz22_1, hcz22_2, hcz22_3, hfz22_0, hfz22_1, hfz22_2, hfz22_3⟩ := bc4 BK265.out; obtain ⟨hcz23_0, hcz23_1, hcz23_2, hcz23_3, hfz23_0, hfz23_1, hfz23_2, hfz23_3⟩ := bc4 BK263.out) | (go_at_call 161; (with_reducible refine (impl_sameExpr_1.calls k1 ((rd_T32 l0 x17_1).f0) ((rd_T32 l0 x17_1).f1) ((rd_T32 l0 x17_1).f2) _ _ ((rd_T32 l0 x17_1).f3) ((rd_T32 l1 x17_1).f0) ((rd_T32 l1 x17_1).f1) ((rd_T32 l1 x17_1).f2) _ _ ((rd_T32 l1 x17_1).f3) false _ ?side1 ?side2 ?side3 ?side4 A9.out).mono ?_); (case side1 => exact Kd.C_below HR262_3.out bw); (case side2 => exact HC262_3.out); (case side3 => exact Kd.C_below HR264_3.out bw); (case side4 => exact HC264_3.out); rintro e w24 ⟨rfl, hb⟩; have n0_ := Aside0.mk (blk_below (g := gb263) (o := .cells #[.int .i64 ((rd_T32 l0 x17_1).f0), .int .i64 ((rd_T32 l0 x17_1).f1), .string ((rd_T32 l0 x17_1).f2), .slice A262_3 ((rd_T32 l0 x17_1).f3).length c262_3] 32 (0, 0)) bx hb); have n1_ := Aside0.mk (blk_below (g := gb265) (o := .cells #[.int .i64 ((rd_T32 l1 x17_1).f0), .int .i64 ((rd_T32 l1 x17_1).f1), .string ((rd_T32 l1 x17_1).f2), .slice A264_3 ((rd_T32 l1 x17_1).f3).length c264_3] 32 (0, 0)) bx hb); have n2_ := Aside0.mk (below_step bw hb); clear BK263; clear BK265; clear HB; have BK263 := n0_; have BK265 := n1_; have HB := n2_; clear n0_ n1_ n2_; (try clear hb); (try clear hb2); (try clear hk); (try clear hi)))
                  go_ret
                  exact ⟨by first | rfl | (simp [errW_none, errW_some] <;> rfl) | (simp [*, errW_none, errW_some] <;> rfl), by repeat (first | (with_reducible first | exact HB.out | apply below_alloc | apply pw_below_drewN | apply below_drew1 | refine below_set ?_ GE263.out | refine below_set ?_ GE265.out) | exact HB.out)⟩
              · rw [if_neg c8] at H
                exact absurd H (by simp)
            · rw [if_neg c7] at H
              exact absurd H (by simp)
          · rw [if_neg c6] at H
            exact absurd H (by simp)
        · rw [if_neg c5] at H
          have c5b0 : decide (x17_1 < (l0.length : Int)) = false := decide_eq_false c5
          clear c5
          obtain rfl := Option.some.inj H
          go_wp2
          go_ret
          exact ⟨by first | rfl | (simp [errW_none, errW_some] <;> rfl) | (simp [*, errW_none, errW_some] <;> rfl), by repeat (first | (with_reducible first | exact HB.out | apply below_alloc | apply pw_below_drewN | apply below_drew1) | exact HB.out)⟩
  · rw [if_neg c4] at H
    have c4b0 : ((l0.length : Int) == (l1.length : Int)) = false := beq_eq_false_iff_ne.mpr c4
    have c4b1 : ((l0.length : Int) != (l1.length : Int)) = true := bne_iff_ne.mpr c4
    have c4b2 : (l0.length == l1.length) = false := by first | simpa using c4 | (simp at c4 ⊢; omega)
    obtain rfl := Option.some.inj H
    go_enter Try.func160, Try.ntmps160
    go_wp2
    go_ret
    exact ⟨by first | rfl | (simp [errW_none, errW_some] <;> rfl) | (simp [*, errW_none, errW_some] <;> rfl), by repeat (first | (with_reducible first | exact HB.out | apply below_alloc | apply pw_below_drewN | apply below_drew1) | exact HB.out)⟩

/-! ### impl_sameExpr: function 107 -/
def impl_sameExpr.f (k : Nat) (l0_0 : List (S32)) (l1_0 : List (S32)) : Option (Bool) := (impl_ExNode.f k l0_0 l1_0 0).bind fun t269 => (some t269)
theorem impl_sameExpr.mono : ∀ a0 a1 k, LeO (impl_sameExpr.f k a0 a1) (impl_sameExpr.f (k + 1) a0 a1) := by
  intro a0 a1 k
  unfold impl_sameExpr.f
  repeat' first
      | (with_reducible exact impl_ExNode.mono _ _ _ _)
      | (with_reducible exact LeO.refl _)
      | (with_reducible exact LeO.none _)
      | (with_reducible refine LeO.ite ?_ ?_)
      | (with_reducible refine LeO.bind ?_ (fun _ => ?_))
      | exact impl_ExNode.mono _ _ _ _
      | exact LeO.none _
      | refine LeO.ite ?_ ?_
      | refine LeO.bind ?_ (fun _ => ?_)
set_option maxHeartbeats 8000000 in
set_option maxRecDepth 100000 in
theorem impl_sameExpr.calls (k : Nat) (A0_0 : Option Addr) (c0_0 : Nat) (l0_0 : List (S32)) (A1_0 : Option Addr) (c1_0 : Nat) (l1_0 : List (S32)) (r : Bool) (w : World) (hr0_0 : Kd.C k32 w A0_0 l0_0.length l0_0) (hc0_0 : l0_0.length ≤ c0_0) (hr1_0 : Kd.C k32 w A1_0 l1_0.length l1_0) (hc1_0 : l1_0.length ≤ c1_0) (h : impl_sameExpr.f k l0_0 l1_0 = some r) :
    Calls Try.prog 107 #[.agg #[.slice A0_0 l0_0.length c0_0], .agg #[.slice A1_0 l1_0.length c1_0]] w fun e w' => e = .returned (.bool r) ∧ Below w.heap.size w w' := by
  have hu26 := Try.underlying26
  have HR0_0 := Aside0.mk hr0_0
  have HC0_0 := Aside0.mk hc0_0
  clear hr0_0 hc0_0
  have HR1_0 := Aside0.mk hr1_0
  have HC1_0 := Aside0.mk hc1_0
  clear hr1_0 hc1_0
  have HB := Aside0.mk (Below.refl w.heap.size w)
  have H : ((impl_ExNode.f k l0_0 l1_0 0).bind fun t269 => (some t269)) = some r := h
  clear h
  replace H := Option.bind_eq_some_iff.mp H
  obtain ⟨t269, A30, H⟩ := H
  replace H : (some t269) = some r := H
  have A3 := Aside0.mk A30
  clear A30
  obtain rfl := Option.some.inj H
  go_enter Try.func107, Try.ntmps107
  go_wp2_with (first | ((with_reducible refine gate_dst (N := 2) rfl ?_); refine box_event ?hg (N := 2) ?hd (cs := #[.slice A0_0 l0_0.length c0_0]) (t := 26) ?hr ?_; (case hd => rfl); (case hg => rfl); (case hr => first | (go_simp; done) | (go_simp; rfl)); intro gb267 hg w4 hbox hb; have n0_ := Aside0.mk (below_step bw hb); have n1_ := Aside0.mk (hbox); have n2_ := Aside0.mk ((bz bw hg : w.heap.size ≤ gb267)); have n3_ := Aside0.mk ((bz bw hg : w.heap.size ≤ gb267)); clear HB; have HB := n0_; have BK267 := n1_; have GW267 := n2_; have GE267 := n3_; clear n0_ n1_ n2_ n3_; clear hb hbox hg) | ((with_reducible refine gate_dst (N := 3) rfl ?_); refine box_event ?hg (N := 3) ?hd (cs := #[.slice A1_0 l1_0.length c1_0]) (t := 26) ?hr ?_; (case hd => rfl); (case hg => rfl); (case hr => first | (go_simp; done) | (go_simp; rfl)); intro gb268 hg w5 hbox hb; have n0_ := Aside0.mk (blk_below (g := gb267) (o := .cells #[.slice A0_0 l0_0.length c0_0] 26 (0, 0)) bx hb); have n1_ := Aside0.mk (below_step bw hb); have n2_ := Aside0.mk (hbox); have n3_ := Aside0.mk ((bz bw hg : w.heap.size ≤ gb268)); have n4_ := Aside0.mk ((bz bw hg : w.heap.size ≤ gb268)); have n5_ := Aside0.mk ((bl bx hg : gb267 ≠ gb268)); have n6_ := Aside0.mk ((bl' bx hg : gb268 ≠ gb267)); clear BK267; clear HB; have BK267 := n0_; have HB := n1_; have BK268 := n2_; have GW268 := n3_; have GE268 := n4_; have NB267_268 := n5_; have NB268_267 := n6_; clear n0_ n1_ n2_ n3_ n4_ n5_ n6_; clear hb hbox hg; have hnb6 := NB267_268.out; have hnc6 := NB268_267.out; obtain ⟨hcz7_0, hfz7_0⟩ := bc1 BK267.out; obtain ⟨hcz8_0, hfz8_0⟩ := bc1 BK268.out) | ((with_reducible refine gate_callee (f := 160) rfl ?_); refine goesL_ (some 9) rfl rfl Try.func160 (by kernel_rfl) rfl #[.slice A0_0 l0_0.length c0_0, .slice A1_0 l1_0.length c1_0, .func (.func 161) #[] #[]] rfl (by (try simp only [List.map_toArray, List.map_cons, List.map_nil]); first | done | rfl | (simp only [List.length_drop, List.length_take]; rfl)) ?_; (with_reducible refine (impl_ExNode.calls k _ _ l0_0 _ _ l1_0 0 t269 _ ?side1 ?side2 ?side3 ?side4 A3.out).mono ?_); (case side1 => exact kb); (case side2 => exact HC0_0.out); (case side3 => exact kb); (case side4 => exact HC1_0.out); rintro e w9 ⟨rfl, hb⟩; refine ⟨_, rfl, ?_⟩; have n0_ := Aside0.mk (blk_below (g := gb267) (o := .cells #[.slice A0_0 l0_0.length c0_0] 26 (0, 0)) bx hb); have n1_ := Aside0.mk (blk_below (g := gb268) (o := .cells #[.slice A1_0 l1_0.length c1_0] 26 (0, 0)) bx hb); have n2_ := Aside0.mk (below_step bw hb); clear BK267; clear BK268; clear HB; have BK267 := n0_; have BK268 := n1_; have HB := n2_; clear n0_ n1_ n2_; (try clear hb); (try clear hb2); (try clear hk); (try clear hi)))
  go_ret
  exact ⟨by first | rfl | (simp [errW_none, errW_some] <;> rfl) | (simp [*, errW_none, errW_some] <;> rfl), by repeat (first | (with_reducible first | exact HB.out | apply below_alloc | apply pw_below_drewN | apply below_drew1 | refine below_set ?_ GE267.out | refine below_set ?_ GE268.out) | exact HB.out)⟩

/-! ### impl_Expr: function 106 -/
def impl_Expr.l0 : Nat → List (S26) → List (S26) → Int → Int → Option (Bool)
  | 0, _, _, _, _ => none
  | k + 1, x1, x15, x16, x17 => if x17 < x16 then (if 0 ≤ x17 then (if x17 < (x15.length : Int) then (if x17 < (x1.length : Int) then ((impl_sameExpr.f k ((rd_T26 x15 x17).f0) ((rd_T26 x1 x17).f0)).bind fun t274 => (if t274 = true then (impl_Expr.l0 k x1 x15 x16 (wrap64 (x17 + 1))) else (some false))) else (none)) else (none)) else (none)) else (some true)
def impl_Expr.f (k : Nat) (l0 : List (S26)) (l1 : List (S26)) (a2 : Int) : Option (Bool) := if (l0.length : Int) = (l1.length : Int) then (impl_Expr.l0 k l1 l0 (l0.length : Int) 0) else (some false)
theorem impl_Expr.mono_l : ∀ k, (∀ y0 y1 y2 y3, LeO (impl_Expr.l0 k y0 y1 y2 y3) (impl_Expr.l0 (k + 1) y0 y1 y2 y3))
  | 0 => fun _ _ _ _ r h => by simp [impl_Expr.l0] at h
  | k + 1 => by
    have ih0 := impl_Expr.mono_l k
    · intro y0 y1 y2 y3
      unfold impl_Expr.l0
      repeat' first
      | (with_reducible exact ih0 _ _ _ _)
      | (with_reducible exact impl_sameExpr.mono _ _ _)
      | (with_reducible exact LeO.refl _)
      | (with_reducible exact LeO.none _)
      | (with_reducible refine LeO.ite ?_ ?_)
      | (with_reducible refine LeO.bind ?_ (fun _ => ?_))
      | exact ih0 _ _ _ _
      | exact impl_sameExpr.mono _ _ _
      | exact LeO.none _
      | refine LeO.ite ?_ ?_
      | refine LeO.bind ?_ (fun _ => ?_)
theorem impl_Expr.mono : ∀ a0 a1 a2 k, LeO (impl_Expr.f k a0 a1 a2) (impl_Expr.f (k + 1) a0 a1 a2) := by
  intro a0 a1 a2 k
  have ih0 := impl_Expr.mono_l k
  unfold impl_Expr.f
  repeat' first
      | (with_reducible exact ih0 _ _ _ _)
      | (with_reducible exact impl_sameExpr.mono _ _ _)
      | (with_reducible exact LeO.refl _)
      | (with_reducible exact LeO.none _)
      | (with_reducible refine LeO.ite ?_ ?_)
      | (with_reducible refine LeO.bind ?_ (fun _ => ?_))
      | exact ih0 _ _ _ _
      | exact impl_sameExpr.mono _ _ _
      | exact LeO.none _
      | refine LeO.ite ?_ ?_
      | refine LeO.bind ?_ (fun _ => ?_)
set_option maxHeartbeats 8000000 in
set_option maxRecDepth 100000 in
theorem impl_Expr.calls (k : Nat) (A0 : Option Addr) (c0 : Nat) (l0 : List (S26)) (A1 : Option Addr) (c1 : Nat) (l1 : List (S26)) (a2 : Int) (r : Bool) (w : World) (hr0 : Kd.C k26 w A0 l0.length l0) (hc0 : l0.length ≤ c0) (hr1 : Kd.C k26 w A1 l1.length l1) (hc1 : l1.length ≤ c1) (h : impl_Expr.f k l0 l1 a2 = some r) :
    Calls Try.prog 106 #[.slice A0 l0.length c0, .slice A1 l1.length c1, .func (.func 107) #[] #[]] w fun e w' => e = .returned (.bool r) ∧ Below w.heap.size w w' := by
  have hu26 := Try.underlying26
  have HR0 := Aside0.mk hr0
  have HC0 := Aside0.mk hc0
  clear hr0 hc0
  have HR1 := Aside0.mk hr1
  have HC1 := Aside0.mk hc1
  clear hr1 hc1
  have HB := Aside0.mk (Below.refl w.heap.size w)
  have H : (if (l0.length : Int) = (l1.length : Int) then (impl_Expr.l0 k l1 l0 (l0.length : Int) 0) else (some false)) = some r := h
  clear h
  by_cases c4 : (l0.length : Int) = (l1.length : Int)
  · rw [if_pos c4] at H
    have c4b0 : ((l0.length : Int) == (l1.length : Int)) = true := beq_iff_eq.mpr c4
    have c4b1 : ((l0.length : Int) != (l1.length : Int)) = false := bne_eq_false_iff_eq.mpr c4
    have c4b2 : (l0.length == l1.length) = true := by first | simpa using c4 | (simp at c4 ⊢; omega)
    clear c4
    have H' := Aside0.mk H
    clear H
    go_enter Try.func106, Try.ntmps106
    go_wp2
    go_loopg [17] k (fun kq v17 w' => ∃ (x17_1 : Int), v17 = .int .i64 x17_1 ∧ Aside0 (impl_Expr.l0 kq l1 l0 (l0.length : Int) x17_1 = some r) ∧ Aside0 (kq ≤ k) ∧ Aside0 (Below w.heap.size w w'))
    case atStart => exact ⟨(0), (by first | rfl | (simp; done) | (simp [*]; done) | (simp [isE0, isE1]; done)), H', ⟨Nat.le_refl _⟩, ⟨by repeat (first | (with_reducible first | exact HB.out | apply below_alloc | apply pw_below_drewN | apply below_drew1) | exact HB.out)⟩⟩
    case round =>
      clear H'
      try clear c1
      try clear p2
      try clear c4
      try clear c4b0
      try clear c4b1
      try clear c4b2
      obtain ⟨x17_1, rfl, HA, HK1, HB⟩ := hrel
      cases gk with
      | zero => exact absurd HA.out (by simp [impl_Expr.l0])
      | succ k1 =>
        have H := HA.out
        clear HA
        simp only [impl_Expr.l0] at H
        by_cases c5 : x17_1 < (l0.length : Int)
        · rw [if_pos c5] at H
          have c5b0 : decide (x17_1 < (l0.length : Int)) = true := decide_eq_true c5
          clear c5
          by_cases c6 : 0 ≤ x17_1
          · rw [if_pos c6] at H
            have c6b0 : decide (0 ≤ x17_1) = true := decide_eq_true c6
            clear c6
            by_cases c7 : x17_1 < (l0.length : Int)
            · rw [if_pos c7] at H
              have c7b0 : decide (x17_1 < (l0.length : Int)) = true := decide_eq_true c7
              clear c7
              by_cases c8 : x17_1 < (l1.length : Int)
              · rw [if_pos c8] at H
                have c8b0 : decide (x17_1 < (l1.length : Int)) = true := decide_eq_true c8
                clear c8
                replace H := Option.bind_eq_some_iff.mp H
                obtain ⟨t274, A90, H⟩ := H
                replace H : (if t274 = true then (impl_Expr.l0 k1 l1 l0 (l0.length : Int) (wrap64 (x17_1 + 1))) else (some false)) = some r := H
                have A9 := Aside0.mk A90
                clear A90
                by_cases c10 : t274 = true
                · subst c10
                  have H1 : (impl_Expr.l0 k1 l1 l0 (l0.length : Int) (wrap64 (x17_1 + 1))) = some r := by rw [if_pos rfl] at H; exact H
                  clear H
                  have H := H1
                  clear H1
                  have H' := Aside0.mk H
                  clear H
                  have p270 : 0 ≤ (x17_1 : Int) := oa
                  have q270 : x17_1 < (l0.length : Int) := oa
                  obtain ⟨ad270, A270_0, c270_0, e270, hx270_0, hl270_0, hi270_0⟩ := at_T26 HR0.out x17_1 p270 q270
                  cases e270
                  replace hx270_0 := hbc HB.out hx270_0
                  have HR270_0 := Aside0.mk hi270_0
                  have HC270_0 := Aside0.mk hl270_0
                  clear hi270_0 hl270_0
                  replace p270 := eq_true p270
                  replace q270 := eq_true q270
                  go_wp2_with (first | ((with_reducible refine gate_dst (N := 8) rfl ?_); refine box_event ?hg (N := 8) ?hd (cs := #[.slice none 0 0]) (t := 26) ?hr ?_; (case hd => rfl); (case hg => rfl); (case hr => first | (go_simp; done) | (go_simp; rfl)); intro gb271 hg w11 hbox hb; have n0_ := Aside0.mk (below_step bw hb); have n1_ := Aside0.mk (hbox); have n2_ := Aside0.mk ((bz bw hg : w.heap.size ≤ gb271)); have n3_ := Aside0.mk ((bz bw hg : w.heap.size ≤ gb271)); clear HB; have HB := n0_; have BK271 := n1_; have GW271 := n2_; have GE271 := n3_; clear n0_ n1_ n2_ n3_; clear hb hbox hg; obtain ⟨hcz12_0, hfz12_0⟩ := bc1 BK271.out; have p272 : 0 ≤ (x17_1 : Int) := oa; have q272 : x17_1 < (l1.length : Int) := oa; obtain ⟨ad272, A272_0, c272_0, e272, hx272_0, hl272_0, hi272_0⟩ := at_T26 HR1.out x17_1 p272 q272; cases e272; have hn272_0 : ad272.block ≠ gb271 := (by first | exact bn hx272_0 GW271.out | exact bm hx272_0 GW271.out); replace hx272_0 := hbc HB.out hx272_0; have HR272_0 := Aside0.mk hi272_0; have HC272_0 := Aside0.mk hl272_0; clear hi272_0 hl272_0; replace hx272_0 := fx ⟨gb271, 0, none⟩ (.slice A270_0 ((rd_T26 l0 x17_1).f0).length c270_0) hx272_0; clear hn272_0; replace p272 := eq_true p272; replace q272 := eq_true q272) | ((with_reducible refine gate_dst (N := 9) rfl ?_); refine box_event ?hg (N := 9) ?hd (cs := #[.slice none 0 0]) (t := 26) ?hr ?_; (case hd => rfl); (case hg => rfl); (case hr => first | (go_simp; done) | (go_simp; rfl)); intro gb273 hg w13 hbox hb; have n0_ := Aside0.mk (blk_below (g := gb271) (o := .cells #[.slice A270_0 ((rd_T26 l0 x17_1).f0).length c270_0] 26 (0, 0)) bx hb); have n1_ := Aside0.mk (below_step bw hb); have n2_ := Aside0.mk (hbox); have n3_ := Aside0.mk ((bz bw hg : w.heap.size ≤ gb273)); have n4_ := Aside0.mk ((bz bw hg : w.heap.size ≤ gb273)); have n5_ := Aside0.mk ((bl bx hg : gb271 ≠ gb273)); have n6_ := Aside0.mk ((bl' bx hg : gb273 ≠ gb271)); clear BK271; clear HB; have BK271 := n0_; have HB := n1_; have BK273 := n2_; have GW273 := n3_; have GE273 := n4_; have NB271_273 := n5_; have NB273_271 := n6_; clear n0_ n1_ n2_ n3_ n4_ n5_ n6_; clear hb hbox hg; have hnb14 := NB273_271.out; have hnc14 := NB271_273.out; obtain ⟨hcz15_0, hfz15_0⟩ := bc1 BK273.out; obtain ⟨hcz16_0, hfz16_0⟩ := bc1 BK271.out) | (go_at_call 107; (with_reducible refine (impl_sameExpr.calls k1 _ _ ((rd_T26 l0 x17_1).f0) _ _ ((rd_T26 l1 x17_1).f0) true _ ?side1 ?side2 ?side3 ?side4 A9.out).mono ?_); (case side1 => exact Kd.C_below HR270_0.out bw); (case side2 => exact HC270_0.out); (case side3 => exact Kd.C_below HR272_0.out bw); (case side4 => exact HC272_0.out); rintro e w17 ⟨rfl, hb⟩; have n0_ := Aside0.mk (blk_below (g := gb271) (o := .cells #[.slice A270_0 ((rd_T26 l0 x17_1).f0).length c270_0] 26 (0, 0)) bx hb); have n1_ := Aside0.mk (blk_below (g := gb273) (o := .cells #[.slice A272_0 ((rd_T26 l1 x17_1).f0).length c272_0] 26 (0, 0)) bx hb); have n2_ := Aside0.mk (below_step bw hb); clear BK271; clear BK273; clear HB; have BK271 := n0_; have BK273 := n1_; have HB := n2_; clear n0_ n1_ n2_; (try clear hb); (try clear hb2); (try clear hk); (try clear hi)))
                  go_roundg k1
                  case measure => have := HK1.out; omega
                  case rel => exact ⟨(wrap64 (x17_1 + 1)), (by first | rfl | (simp; done) | (simp [*]; done) | (simp [isE0, isE1]; done)), H', ⟨by have := HK1.out; omega⟩, ⟨by repeat (first | (with_reducible first | exact HB.out | apply below_alloc | apply pw_below_drewN | apply below_drew1 | refine below_set ?_ GE271.out | refine below_set ?_ GE273.out) | exact HB.out)⟩⟩
                · replace c10 := Bool.eq_false_iff.mpr c10
                  subst c10
                  have H1 : (some false) = some r := by rw [if_neg (show ¬ (false = true) by decide)] at H; exact H
                  clear H
                  have H := H1
                  clear H1
                  obtain rfl := Option.some.inj H
                  have p270 : 0 ≤ (x17_1 : Int) := oa
                  have q270 : x17_1 < (l0.length : Int) := oa
                  obtain ⟨ad270, A270_0, c270_0, e270, hx270_0, hl270_0, hi270_0⟩ := at_T26 HR0.out x17_1 p270 q270
                  cases e270
                  replace hx270_0 := hbc HB.out hx270_0
                  have HR270_0 := Aside0.mk hi270_0
                  have HC270_0 := Aside0.mk hl270_0
                  clear hi270_0 hl270_0
                  replace p270 := eq_true p270
                  replace q270 := eq_true q270
                  go_wp2_with (first | ((with_reducible refine gate_dst (N := 8) rfl ?_); refine box_event ?hg (N := 8) ?hd (cs := #[.slice none 0 0]) (t := 26) ?hr ?_; (case hd => rfl); (case hg => rfl); (case hr => first | (go_simp; done) | (go_simp; rfl)); intro gb271 hg w18 hbox hb; have n0_ := Aside0.mk (below_step bw hb); have n1_ := Aside0.mk (hbox); have n2_ := Aside0.mk ((bz bw hg : w.heap.size ≤ gb271)); have n3_ := Aside0.mk ((bz bw hg : w.heap.size ≤ gb271)); clear HB; have HB := n0_; have BK271 := n1_; have GW271 := n2_; have GE271 := n3_; clear n0_ n1_ n2_ n3_; clear hb hbox hg; obtain ⟨hcz19_0, hfz19_0⟩ := bc1 BK271.out; have p272 : 0 ≤ (x17_1 : Int) := oa; have q272 : x17_1 < (l1.length : Int) := oa; obtain ⟨ad272, A272_0, c272_0, e272, hx272_0, hl272_0, hi272_0⟩ := at_T26 HR1.out x17_1 p272 q272; cases e272; have hn272_0 : ad272.block ≠ gb271 := (by first | exact bn hx272_0 GW271.out | exact bm hx272_0 GW271.out); replace hx272_0 := hbc HB.out hx272_0; have HR272_0 := Aside0.mk hi272_0; have HC272_0 := Aside0.mk hl272_0; clear hi272_0 hl272_0; replace hx272_0 := fx ⟨gb271, 0, none⟩ (.slice A270_0 ((rd_T26 l0 x17_1).f0).length c270_0) hx272_0; clear hn272_0; replace p272 := eq_true p272; replace q272 := eq_true q272) | ((with_reducible refine gate_dst (N := 9) rfl ?_); refine box_event ?hg (N := 9) ?hd (cs := #[.slice none 0 0]) (t := 26) ?hr ?_; (case hd => rfl); (case hg => rfl); (case hr => first | (go_simp; done) | (go_simp; rfl)); intro gb273 hg w20 hbox hb; have n0_ := Aside0.mk (blk_below (g := gb271) (o := .cells #[.slice A270_0 ((rd_T26 l0 x17_1).f0).length c270_0] 26 (0, 0)) bx hb); have n1_ := Aside0.mk (below_step bw hb); have n2_ := Aside0.mk (hbox); have n3_ := Aside0.mk ((bz bw hg : w.heap.size ≤ gb273)); have n4_ := Aside0.mk ((bz bw hg : w.heap.size ≤ gb273)); have n5_ := Aside0.mk ((bl bx hg : gb271 ≠ gb273)); have n6_ := Aside0.mk ((bl' bx hg : gb273 ≠ gb271)); clear BK271; clear HB; have BK271 := n0_; have HB := n1_; have BK273 := n2_; have GW273 := n3_; have GE273 := n4_; have NB271_273 := n5_; have NB273_271 := n6_; clear n0_ n1_ n2_ n3_ n4_ n5_ n6_; clear hb hbox hg; have hnb21 := NB273_271.out; have hnc21 := NB271_273.out; obtain ⟨hcz22_0, hfz22_0⟩ := bc1 BK273.out; obtain ⟨hcz23_0, hfz23_0⟩ := bc1 BK271.out) | (go_at_call 107; (with_reducible refine (impl_sameExpr.calls k1 _ _ ((rd_T26 l0 x17_1).f0) _ _ ((rd_T26 l1 x17_1).f0) false _ ?side1 ?side2 ?side3 ?side4 A9.out).mono ?_); (case side1 => exact Kd.C_below HR270_0.out bw); (case side2 => exact HC270_0.out); (case side3 => exact Kd.C_below HR272_0.out bw); (case side4 => exact HC272_0.out); rintro e w24 ⟨rfl, hb⟩; have n0_ := Aside0.mk (blk_below (g := gb271) (o := .cells #[.slice A270_0 ((rd_T26 l0 x17_1).f0).length c270_0] 26 (0, 0)) bx hb); have n1_ := Aside0.mk (blk_below (g := gb273) (o := .cells #[.slice A272_0 ((rd_T26 l1 x17_1).f0).length c272_0] 26 (0, 0)) bx hb); have n2_ := Aside0.mk (below_step bw hb); clear BK271; clear BK273; clear HB; have BK271 := n0_; have BK273 := n1_; have HB := n2_; clear n0_ n1_ n2_; (try clear hb); (try clear hb2); (try clear hk); (try clear hi)))
                  go_ret
                  exact ⟨by first | rfl | (simp [errW_none, errW_some] <;> rfl) | (simp [*, errW_none, errW_some] <;> rfl), by repeat (first | (with_reducible first | exact HB.out | apply below_alloc | apply pw_below_drewN | apply below_drew1 | refine below_set ?_ GE271.out | refine below_set ?_ GE273.out) | exact HB.out)⟩
              · rw [if_neg c8] at H
                exact absurd H (by simp)
            · rw [if_neg c7] at H
              exact absurd H (by simp)
          · rw [if_neg c6] at H
            exact absurd H (by simp)
        · rw [if_neg c5] at H
          have c5b0 : decide (x17_1 < (l0.length : Int)) = false := decide_eq_false c5
          clear c5
          obtain rfl := Option.some.inj H
          go_wp2
          go_ret
          exact ⟨by first | rfl | (simp [errW_none, errW_some] <;> rfl) | (simp [*, errW_none, errW_some] <;> rfl), by repeat (first | (with_reducible first | exact HB.out | apply below_alloc | apply pw_below_drewN | apply below_drew1) | exact HB.out)⟩
  · rw [if_neg c4] at H
    have c4b0 : ((l0.length : Int) == (l1.length : Int)) = false := beq_eq_false_iff_ne.mpr c4
    have c4b1 : ((l0.length : Int) != (l1.length : Int)) = true := bne_iff_ne.mpr c4
    have c4b2 : (l0.length == l1.length) = false := by first | simpa using c4 | (simp at c4 ⊢; omega)
    obtain rfl := Option.some.inj H
    go_enter Try.func106, Try.ntmps106
    go_wp2
    go_ret
    exact ⟨by first | rfl | (simp [errW_none, errW_some] <;> rfl) | (simp [*, errW_none, errW_some] <;> rfl), by repeat (first | (with_reducible first | exact HB.out | apply below_alloc | apply pw_below_drewN | apply below_drew1) | exact HB.out)⟩

/-! ### impl_sameSym: function 167 -/
def impl_sameSym.f (k : Nat) (a0_0 : Int) (a0_1 : ByteArray) (l0_2 : List (S26)) (a0_3 : ByteArray) (a1_0 : Int) (a1_1 : ByteArray) (l1_2 : List (S26)) (a1_3 : ByteArray) : Option (Bool) := if a0_0 = a1_0 then (if a0_1.toList = a1_1.toList then (if a0_3.toList = a1_3.toList then ((impl_Expr.f k l0_2 l1_2 0).bind fun t277 => (some t277)) else (some false)) else (some false)) else (some false)
theorem impl_sameSym.mono : ∀ a0 a1 a2 a3 a4 a5 a6 a7 k, LeO (impl_sameSym.f k a0 a1 a2 a3 a4 a5 a6 a7) (impl_sameSym.f (k + 1) a0 a1 a2 a3 a4 a5 a6 a7) := by
  intro a0 a1 a2 a3 a4 a5 a6 a7 k
  unfold impl_sameSym.f
  repeat' first
      | (with_reducible exact impl_Expr.mono _ _ _ _)
      | (with_reducible exact LeO.refl _)
      | (with_reducible exact LeO.none _)
      | (with_reducible refine LeO.ite ?_ ?_)
      | (with_reducible refine LeO.bind ?_ (fun _ => ?_))
      | exact impl_Expr.mono _ _ _ _
      | exact LeO.none _
      | refine LeO.ite ?_ ?_
      | refine LeO.bind ?_ (fun _ => ?_)
set_option maxHeartbeats 8000000 in
set_option maxRecDepth 100000 in
theorem impl_sameSym.calls (k : Nat) (a0_0 : Int) (a0_1 : ByteArray) (A0_2 : Option Addr) (c0_2 : Nat) (l0_2 : List (S26)) (a0_3 : ByteArray) (a1_0 : Int) (a1_1 : ByteArray) (A1_2 : Option Addr) (c1_2 : Nat) (l1_2 : List (S26)) (a1_3 : ByteArray) (r : Bool) (w : World) (hr0_2 : Kd.C k26 w A0_2 l0_2.length l0_2) (hc0_2 : l0_2.length ≤ c0_2) (hr1_2 : Kd.C k26 w A1_2 l1_2.length l1_2) (hc1_2 : l1_2.length ≤ c1_2) (h : impl_sameSym.f k a0_0 a0_1 l0_2 a0_3 a1_0 a1_1 l1_2 a1_3 = some r) :
    Calls Try.prog 167 #[.agg #[.int .i64 a0_0, .string a0_1, .slice A0_2 l0_2.length c0_2, .string a0_3], .agg #[.int .i64 a1_0, .string a1_1, .slice A1_2 l1_2.length c1_2, .string a1_3]] w fun e w' => e = .returned (.bool r) ∧ Below w.heap.size w w' := by
  have hu167 := Try.underlying167
  have HR0_2 := Aside0.mk hr0_2
  have HC0_2 := Aside0.mk hc0_2
  clear hr0_2 hc0_2
  have HR1_2 := Aside0.mk hr1_2
  have HC1_2 := Aside0.mk hc1_2
  clear hr1_2 hc1_2
  have HB := Aside0.mk (Below.refl w.heap.size w)
  have H : (if a0_0 = a1_0 then (if a0_1.toList = a1_1.toList then (if a0_3.toList = a1_3.toList then ((impl_Expr.f k l0_2 l1_2 0).bind fun t277 => (some t277)) else (some false)) else (some false)) else (some false)) = some r := h
  clear h
  by_cases c3 : a0_0 = a1_0
  · rw [if_pos c3] at H
    have c3b0 : (a0_0 == a1_0) = true := beq_iff_eq.mpr c3
    have c3b1 : (a0_0 != a1_0) = false := bne_eq_false_iff_eq.mpr c3
    clear c3
    by_cases c4 : a0_1.toList = a1_1.toList
    · rw [if_pos c4] at H
      have c4b0 : (a0_1.toList == a1_1.toList) = true := beq_iff_eq.mpr c4
      have c4b1 : (a0_1.toList != a1_1.toList) = false := bne_eq_false_iff_eq.mpr c4
      clear c4
      by_cases c5 : a0_3.toList = a1_3.toList
      · rw [if_pos c5] at H
        have c5b0 : (a0_3.toList == a1_3.toList) = true := beq_iff_eq.mpr c5
        have c5b1 : (a0_3.toList != a1_3.toList) = false := bne_eq_false_iff_eq.mpr c5
        clear c5
        replace H := Option.bind_eq_some_iff.mp H
        obtain ⟨t277, A60, H⟩ := H
        replace H : (some t277) = some r := H
        have A6 := Aside0.mk A60
        clear A60
        obtain rfl := Option.some.inj H
        go_enter Try.func167, Try.ntmps167
        go_wp2_with (first | ((with_reducible refine gate_dst (N := 2) rfl ?_); refine box_event ?hg (N := 2) ?hd (cs := #[.int .i64 a0_0, .string a0_1, .slice A0_2 l0_2.length c0_2, .string a0_3]) (t := 167) ?hr ?_; (case hd => rfl); (case hg => rfl); (case hr => first | (go_simp; done) | (go_simp; rfl)); intro gb275 hg w7 hbox hb; have n0_ := Aside0.mk (below_step bw hb); have n1_ := Aside0.mk (hbox); have n2_ := Aside0.mk ((bz bw hg : w.heap.size ≤ gb275)); have n3_ := Aside0.mk ((bz bw hg : w.heap.size ≤ gb275)); clear HB; have HB := n0_; have BK275 := n1_; have GW275 := n2_; have GE275 := n3_; clear n0_ n1_ n2_ n3_; clear hb hbox hg) | ((with_reducible refine gate_dst (N := 3) rfl ?_); refine box_event ?hg (N := 3) ?hd (cs := #[.int .i64 a1_0, .string a1_1, .slice A1_2 l1_2.length c1_2, .string a1_3]) (t := 167) ?hr ?_; (case hd => rfl); (case hg => rfl); (case hr => first | (go_simp; done) | (go_simp; rfl)); intro gb276 hg w8 hbox hb; have n0_ := Aside0.mk (blk_below (g := gb275) (o := .cells #[.int .i64 a0_0, .string a0_1, .slice A0_2 l0_2.length c0_2, .string a0_3] 167 (0, 0)) bx hb); have n1_ := Aside0.mk (below_step bw hb); have n2_ := Aside0.mk (hbox); have n3_ := Aside0.mk ((bz bw hg : w.heap.size ≤ gb276)); have n4_ := Aside0.mk ((bz bw hg : w.heap.size ≤ gb276)); have n5_ := Aside0.mk ((bl bx hg : gb275 ≠ gb276)); have n6_ := Aside0.mk ((bl' bx hg : gb276 ≠ gb275)); clear BK275; clear HB; have BK275 := n0_; have HB := n1_; have BK276 := n2_; have GW276 := n3_; have GE276 := n4_; have NB275_276 := n5_; have NB276_275 := n6_; clear n0_ n1_ n2_ n3_ n4_ n5_ n6_; clear hb hbox hg; have hnb9 := NB275_276.out; have hnc9 := NB276_275.out; obtain ⟨hcz10_0, hcz10_1, hcz10_2, hcz10_3, hfz10_0, hfz10_1, hfz10_2, hfz10_3⟩ := bc4 BK275.out; obtain ⟨hcz11_0, hcz11_1, hcz11_2, hcz11_3, hfz11_0, hfz11_1, hfz11_2, hfz11_3⟩ := bc4 BK276.out) | (go_at_call 106; (with_reducible refine (impl_Expr.calls k _ _ l0_2 _ _ l1_2 0 t277 _ ?side1 ?side2 ?side3 ?side4 A6.out).mono ?_); (case side1 => exact kb); (case side2 => exact HC0_2.out); (case side3 => exact kb); (case side4 => exact HC1_2.out); rintro e w12 ⟨rfl, hb⟩; have n0_ := Aside0.mk (blk_below (g := gb275) (o := .cells #[.int .i64 a0_0, .string a0_1, .slice A0_2 l0_2.length c0_2, .string a0_3] 167 (0, 0)) bx hb); have n1_ := Aside0.mk (blk_below (g := gb276) (o := .cells #[.int .i64 a1_0, .string a1_1, .slice A1_2 l1_2.length c1_2, .string a1_3] 167 (0, 0)) bx hb); have n2_ := Aside0.mk (below_step bw hb); clear BK275; clear BK276; clear HB; have BK275 := n0_; have BK276 := n1_; have HB := n2_; clear n0_ n1_ n2_; (try clear hb); (try clear hb2); (try clear hk); (try clear hi)))
        go_ret
        exact ⟨by first | rfl | (simp [errW_none, errW_some] <;> rfl) | (simp [*, errW_none, errW_some] <;> rfl), by repeat (first | (with_reducible first | exact HB.out | apply below_alloc | apply pw_below_drewN | apply below_drew1 | refine below_set ?_ GE275.out | refine below_set ?_ GE276.out) | exact HB.out)⟩
      · rw [if_neg c5] at H
        have c5b0 : (a0_3.toList == a1_3.toList) = false := beq_eq_false_iff_ne.mpr c5
        have c5b1 : (a0_3.toList != a1_3.toList) = true := bne_iff_ne.mpr c5
        obtain rfl := Option.some.inj H
        go_enter Try.func167, Try.ntmps167
        go_wp2_with (first | ((with_reducible refine gate_dst (N := 2) rfl ?_); refine box_event ?hg (N := 2) ?hd (cs := #[.int .i64 a0_0, .string a0_1, .slice A0_2 l0_2.length c0_2, .string a0_3]) (t := 167) ?hr ?_; (case hd => rfl); (case hg => rfl); (case hr => first | (go_simp; done) | (go_simp; rfl)); intro gb275 hg w13 hbox hb; have n0_ := Aside0.mk (below_step bw hb); have n1_ := Aside0.mk (hbox); have n2_ := Aside0.mk ((bz bw hg : w.heap.size ≤ gb275)); have n3_ := Aside0.mk ((bz bw hg : w.heap.size ≤ gb275)); clear HB; have HB := n0_; have BK275 := n1_; have GW275 := n2_; have GE275 := n3_; clear n0_ n1_ n2_ n3_; clear hb hbox hg) | ((with_reducible refine gate_dst (N := 3) rfl ?_); refine box_event ?hg (N := 3) ?hd (cs := #[.int .i64 a1_0, .string a1_1, .slice A1_2 l1_2.length c1_2, .string a1_3]) (t := 167) ?hr ?_; (case hd => rfl); (case hg => rfl); (case hr => first | (go_simp; done) | (go_simp; rfl)); intro gb276 hg w14 hbox hb; have n0_ := Aside0.mk (blk_below (g := gb275) (o := .cells #[.int .i64 a0_0, .string a0_1, .slice A0_2 l0_2.length c0_2, .string a0_3] 167 (0, 0)) bx hb); have n1_ := Aside0.mk (below_step bw hb); have n2_ := Aside0.mk (hbox); have n3_ := Aside0.mk ((bz bw hg : w.heap.size ≤ gb276)); have n4_ := Aside0.mk ((bz bw hg : w.heap.size ≤ gb276)); have n5_ := Aside0.mk ((bl bx hg : gb275 ≠ gb276)); have n6_ := Aside0.mk ((bl' bx hg : gb276 ≠ gb275)); clear BK275; clear HB; have BK275 := n0_; have HB := n1_; have BK276 := n2_; have GW276 := n3_; have GE276 := n4_; have NB275_276 := n5_; have NB276_275 := n6_; clear n0_ n1_ n2_ n3_ n4_ n5_ n6_; clear hb hbox hg; have hnb15 := NB275_276.out; have hnc15 := NB276_275.out; obtain ⟨hcz16_0, hcz16_1, hcz16_2, hcz16_3, hfz16_0, hfz16_1, hfz16_2, hfz16_3⟩ := bc4 BK275.out; obtain ⟨hcz17_0, hcz17_1, hcz17_2, hcz17_3, hfz17_0, hfz17_1, hfz17_2, hfz17_3⟩ := bc4 BK276.out))
        go_ret
        exact ⟨by first | rfl | (simp [errW_none, errW_some] <;> rfl) | (simp [*, errW_none, errW_some] <;> rfl), by repeat (first | (with_reducible first | exact HB.out | apply below_alloc | apply pw_below_drewN | apply below_drew1 | refine below_set ?_ GE275.out | refine below_set ?_ GE276.out) | exact HB.out)⟩
    · rw [if_neg c4] at H
      have c4b0 : (a0_1.toList == a1_1.toList) = false := beq_eq_false_iff_ne.mpr c4
      have c4b1 : (a0_1.toList != a1_1.toList) = true := bne_iff_ne.mpr c4
      obtain rfl := Option.some.inj H
      go_enter Try.func167, Try.ntmps167
      go_wp2_with (first | ((with_reducible refine gate_dst (N := 2) rfl ?_); refine box_event ?hg (N := 2) ?hd (cs := #[.int .i64 a0_0, .string a0_1, .slice A0_2 l0_2.length c0_2, .string a0_3]) (t := 167) ?hr ?_; (case hd => rfl); (case hg => rfl); (case hr => first | (go_simp; done) | (go_simp; rfl)); intro gb275 hg w18 hbox hb; have n0_ := Aside0.mk (below_step bw hb); have n1_ := Aside0.mk (hbox); have n2_ := Aside0.mk ((bz bw hg : w.heap.size ≤ gb275)); have n3_ := Aside0.mk ((bz bw hg : w.heap.size ≤ gb275)); clear HB; have HB := n0_; have BK275 := n1_; have GW275 := n2_; have GE275 := n3_; clear n0_ n1_ n2_ n3_; clear hb hbox hg) | ((with_reducible refine gate_dst (N := 3) rfl ?_); refine box_event ?hg (N := 3) ?hd (cs := #[.int .i64 a1_0, .string a1_1, .slice A1_2 l1_2.length c1_2, .string a1_3]) (t := 167) ?hr ?_; (case hd => rfl); (case hg => rfl); (case hr => first | (go_simp; done) | (go_simp; rfl)); intro gb276 hg w19 hbox hb; have n0_ := Aside0.mk (blk_below (g := gb275) (o := .cells #[.int .i64 a0_0, .string a0_1, .slice A0_2 l0_2.length c0_2, .string a0_3] 167 (0, 0)) bx hb); have n1_ := Aside0.mk (below_step bw hb); have n2_ := Aside0.mk (hbox); have n3_ := Aside0.mk ((bz bw hg : w.heap.size ≤ gb276)); have n4_ := Aside0.mk ((bz bw hg : w.heap.size ≤ gb276)); have n5_ := Aside0.mk ((bl bx hg : gb275 ≠ gb276)); have n6_ := Aside0.mk ((bl' bx hg : gb276 ≠ gb275)); clear BK275; clear HB; have BK275 := n0_; have HB := n1_; have BK276 := n2_; have GW276 := n3_; have GE276 := n4_; have NB275_276 := n5_; have NB276_275 := n6_; clear n0_ n1_ n2_ n3_ n4_ n5_ n6_; clear hb hbox hg; have hnb20 := NB275_276.out; have hnc20 := NB276_275.out; obtain ⟨hcz21_0, hcz21_1, hcz21_2, hcz21_3, hfz21_0, hfz21_1, hfz21_2, hfz21_3⟩ := bc4 BK275.out; obtain ⟨hcz22_0, hcz22_1, hcz22_2, hcz22_3, hfz22_0, hfz22_1, hfz22_2, hfz22_3⟩ := bc4 BK276.out))
      go_ret
      exact ⟨by first | rfl | (simp [errW_none, errW_some] <;> rfl) | (simp [*, errW_none, errW_some] <;> rfl), by repeat (first | (with_reducible first | exact HB.out | apply below_alloc | apply pw_below_drewN | apply below_drew1 | refine below_set ?_ GE275.out | refine below_set ?_ GE276.out) | exact HB.out)⟩
  · rw [if_neg c3] at H
    have c3b0 : (a0_0 == a1_0) = false := beq_eq_false_iff_ne.mpr c3
    have c3b1 : (a0_0 != a1_0) = true := bne_iff_ne.mpr c3
    obtain rfl := Option.some.inj H
    go_enter Try.func167, Try.ntmps167
    go_wp2_with (first | ((with_reducible refine gate_dst (N := 2) rfl ?_); refine box_event ?hg (N := 2) ?hd (cs := #[.int .i64 a0_0, .string a0_1, .slice A0_2 l0_2.length c0_2, .string a0_3]) (t := 167) ?hr ?_; (case hd => rfl); (case hg => rfl); (case hr => first | (go_simp; done) | (go_simp; rfl)); intro gb275 hg w23 hbox hb; have n0_ := Aside0.mk (below_step bw hb); have n1_ := Aside0.mk (hbox); have n2_ := Aside0.mk ((bz bw hg : w.heap.size ≤ gb275)); have n3_ := Aside0.mk ((bz bw hg : w.heap.size ≤ gb275)); clear HB; have HB := n0_; have BK275 := n1_; have GW275 := n2_; have GE275 := n3_; clear n0_ n1_ n2_ n3_; clear hb hbox hg) | ((with_reducible refine gate_dst (N := 3) rfl ?_); refine box_event ?hg (N := 3) ?hd (cs := #[.int .i64 a1_0, .string a1_1, .slice A1_2 l1_2.length c1_2, .string a1_3]) (t := 167) ?hr ?_; (case hd => rfl); (case hg => rfl); (case hr => first | (go_simp; done) | (go_simp; rfl)); intro gb276 hg w24 hbox hb; have n0_ := Aside0.mk (blk_below (g := gb275) (o := .cells #[.int .i64 a0_0, .string a0_1, .slice A0_2 l0_2.length c0_2, .string a0_3] 167 (0, 0)) bx hb); have n1_ := Aside0.mk (below_step bw hb); have n2_ := Aside0.mk (hbox); have n3_ := Aside0.mk ((bz bw hg : w.heap.size ≤ gb276)); have n4_ := Aside0.mk ((bz bw hg : w.heap.size ≤ gb276)); have n5_ := Aside0.mk ((bl bx hg : gb275 ≠ gb276)); have n6_ := Aside0.mk ((bl' bx hg : gb276 ≠ gb275)); clear BK275; clear HB; have BK275 := n0_; have HB := n1_; have BK276 := n2_; have GW276 := n3_; have GE276 := n4_; have NB275_276 := n5_; have NB276_275 := n6_; clear n0_ n1_ n2_ n3_ n4_ n5_ n6_; clear hb hbox hg; have hnb25 := NB275_276.out; have hnc25 := NB276_275.out; obtain ⟨hcz26_0, hcz26_1, hcz26_2, hcz26_3, hfz26_0, hfz26_1, hfz26_2, hfz26_3⟩ := bc4 BK275.out; obtain ⟨hcz27_0, hcz27_1, hcz27_2, hcz27_3, hfz27_0, hfz27_1, hfz27_2, hfz27_3⟩ := bc4 BK276.out))
    go_ret
    exact ⟨by first | rfl | (simp [errW_none, errW_some] <;> rfl) | (simp [*, errW_none, errW_some] <;> rfl), by repeat (first | (with_reducible first | exact HB.out | apply below_alloc | apply pw_below_drewN | apply below_drew1 | refine below_set ?_ GE275.out | refine below_set ?_ GE276.out) | exact HB.out)⟩

/-! ### impl_Sym: function 166 -/
def impl_Sym.l0 : Nat → List (S167) → List (S167) → Int → Int → Option (Bool)
  | 0, _, _, _, _ => none
  | k + 1, x1, x15, x16, x17 => if x17 < x16 then (if 0 ≤ x17 then (if x17 < (x15.length : Int) then (if x17 < (x1.length : Int) then ((impl_sameSym.f k ((rd_T167 x15 x17).f0) ((rd_T167 x15 x17).f1) ((rd_T167 x15 x17).f2) ((rd_T167 x15 x17).f3) ((rd_T167 x1 x17).f0) ((rd_T167 x1 x17).f1) ((rd_T167 x1 x17).f2) ((rd_T167 x1 x17).f3)).bind fun t282 => (if t282 = true then (impl_Sym.l0 k x1 x15 x16 (wrap64 (x17 + 1))) else (some false))) else (none)) else (none)) else (none)) else (some true)
def impl_Sym.f (k : Nat) (l0 : List (S167)) (l1 : List (S167)) (a2 : Int) : Option (Bool) := if (l0.length : Int) = (l1.length : Int) then (impl_Sym.l0 k l1 l0 (l0.length : Int) 0) else (some false)
theorem impl_Sym.mono_l : ∀ k, (∀ y0 y1 y2 y3, LeO (impl_Sym.l0 k y0 y1 y2 y3) (impl_Sym.l0 (k + 1) y0 y1 y2 y3))
  | 0 => fun _ _ _ _ r h => by simp [impl_Sym.l0] at h
  | k + 1 => by
    have ih0 := impl_Sym.mono_l k
    · intro y0 y1 y2 y3
      unfold impl_Sym.l0
      repeat' first
      | (with_reducible exact ih0 _ _ _ _)
      | (with_reducible exact impl_sameSym.mono _ _ _ _ _ _ _ _ _)
      | (with_reducible exact LeO.refl _)
      | (with_reducible exact LeO.none _)
      | (with_reducible refine LeO.ite ?_ ?_)
      | (with_reducible refine LeO.bind ?_ (fun _ => ?_))
      | exact ih0 _ _ _ _
      | exact impl_sameSym.mono _ _ _ _ _ _ _ _ _
      | exact LeO.none _
      | refine LeO.ite ?_ ?_
      | refine LeO.bind ?_ (fun _ => ?_)
theorem impl_Sym.mono : ∀ a0 a1 a2 k, LeO (impl_Sym.f k a0 a1 a2) (impl_Sym.f (k + 1) a0 a1 a2) := by
  intro a0 a1 a2 k
  have ih0 := impl_Sym.mono_l k
  unfold impl_Sym.f
  repeat' first
      | (with_reducible exact ih0 _ _ _ _)
      | (with_reducible exact impl_sameSym.mono _ _ _ _ _ _ _ _ _)
      | (with_reducible exact LeO.refl _)
      | (with_reducible exact LeO.none _)
      | (with_reducible refine LeO.ite ?_ ?_)
      | (with_reducible refine LeO.bind ?_ (fun _ => ?_))
      | exact ih0 _ _ _ _
      | exact impl_sameSym.mono _ _ _ _ _ _ _ _ _
      | exact LeO.none _
      | refine LeO.ite ?_ ?_
      | refine LeO.bind ?_ (fun _ => ?_)
set_option maxHeartbeats 8000000 in
set_option maxRecDepth 100000 in
theorem impl_Sym.calls (k : Nat) (A0 : Option Addr) (c0 : Nat) (l0 : List (S167)) (A1 : Option Addr) (c1 : Nat) (l1 : List (S167)) (a2 : Int) (r : Bool) (w : World) (hr0 : Kd.C k167 w A0 l0.length l0) (hc0 : l0.length ≤ c0) (hr1 : Kd.C k167 w A1 l1.length l1) (hc1 : l1.length ≤ c1) (h : impl_Sym.f k l0 l1 a2 = some r) :
    Calls Try.prog 166 #[.slice A0 l0.length c0, .slice A1 l1.length c1, .func (.func 167) #[] #[]] w fun e w' => e = .returned (.bool r) ∧ Below w.heap.size w w' := by
  have hu167 := Try.underlying167
  have HR0 := Aside0.mk hr0
  have HC0 := Aside0.mk hc0
  clear hr0 hc0
  have HR1 := Aside0.mk hr1
  have HC1 := Aside0.mk hc1
  clear hr1 hc1
  have HB := Aside0.mk (Below.refl w.heap.size w)
  have H : (if (l0.length : Int) = (l1.length : Int) then (impl_Sym.l0 k l1 l0 (l0.length : Int) 0) else (some false)) = some r := h
  clear h
  by_cases c4 : (l0.length : Int) = (l1.length : Int)
  · rw [if_pos c4] at H
    have c4b0 : ((l0.length : Int) == (l1.length : Int)) = true := beq_iff_eq.mpr c4
    have c4b1 : ((l0.length : Int) != (l1.length : Int)) = false := bne_eq_false_iff_eq.mpr c4
    have c4b2 : (l0.length == l1.length) = true := by first | simpa using c4 | (simp at c4 ⊢; omega)
    clear c4
    have H' := Aside0.mk H
    clear H
    go_enter Try.func166, Try.ntmps166
    go_wp2
    go_loopg [17] k (fun kq v17 w' => ∃ (x17_1 : Int), v17 = .int .i64 x17_1 ∧ Aside0 (impl_Sym.l0 kq l1 l0 (l0.length : Int) x17_1 = some r) ∧ Aside0 (kq ≤ k) ∧ Aside0 (Below w.heap.size w w'))
    case atStart => exact ⟨(0), (by first | rfl | (simp; done) | (simp [*]; done) | (simp [isE0, isE1]; done)), H', ⟨Nat.le_refl _⟩, ⟨by repeat (first | (with_reducible first | exact HB.out | apply below_alloc | apply pw_below_drewN | apply below_drew1) | exact HB.out)⟩⟩
    case round =>
      clear H'
      try clear c1
      try clear p2
      try clear c4
      try clear c4b0
      try clear c4b1
      try clear c4b2
      obtain ⟨x17_1, rfl, HA, HK1, HB⟩ := hrel
      cases gk with
      | zero => exact absurd HA.out (by simp [impl_Sym.l0])
      | succ k1 =>
        have H := HA.out
        clear HA
        simp only [impl_Sym.l0] at H
        by_cases c5 : x17_1 < (l0.length : Int)
        · rw [if_pos c5] at H
          have c5b0 : decide (x17_1 < (l0.length : Int)) = true := decide_eq_true c5
          clear c5
          by_cases c6 : 0 ≤ x17_1
          · rw [if_pos c6] at H
            have c6b0 : decide (0 ≤ x17_1) = true := decide_eq_true c6
            clear c6
            by_cases c7 : x17_1 < (l0.length : Int)
            · rw [if_pos c7] at H
              have c7b0 : decide (x17_1 < (l0.length : Int)) = true := decide_eq_true c7
              clear c7
              by_cases c8 : x17_1 < (l1.length : Int)
              · rw [if_pos c8] at H
                have c8b0 : decide (x17_1 < (l1.length : Int)) = true := decide_eq_true c8
                clear c8
                replace H := Option.bind_eq_some_iff.mp H
                obtain ⟨t282, A90, H⟩ := H
                replace H : (if t282 = true then (impl_Sym.l0 k1 l1 l0 (l0.length : Int) (wrap64 (x17_1 + 1))) else (some false)) = some r := H
                have A9 := Aside0.mk A90
                clear A90
                by_cases c10 : t282 = true
                · subst c10
                  have H1 : (impl_Sym.l0 k1 l1 l0 (l0.length : Int) (wrap64 (x17_1 + 1))) = some r := by rw [if_pos rfl] at H; exact H
                  clear H
                  have H := H1
                  clear H1
                  have H' := Aside0.mk H
                  clear H
                  have p278 : 0 ≤ (x17_1 : Int) := oa
                  have q278 : x17_1 < (l0.length : Int) := oa
                  obtain ⟨ad278, A278_2, c278_2, e278, hx278_0, hx278_1, hx278_2, hx278_3, hl278_2, hi278_2⟩ := at_T167 HR0.out x17_1 p278 q278
                  cases e278
                  replace hx278_0 := hbc HB.out hx278_0
                  replace hx278_1 := hbc HB.out hx278_1
                  replace hx278_2 := hbc HB.out hx278_2
                  replace hx278_3 := hbc HB.out hx278_3
                  have HR278_2 := Aside0.mk hi278_2
                  have HC278_2 := Aside0.mk hl278_2
                  clear hi278_2 hl278_2
                  replace p278 := eq_true p278
                  replace q278 := eq_true q278
                  go_wp2_with (first | ((with_reducible refine gate_dst (N := 8) rfl ?_); refine box_event ?hg (N := 8) ?hd (cs := #[.int .i64 0, .string (⟨#[]⟩ : ByteArray), .slice none 0 0, .string (⟨#[]⟩ : ByteArray)]) (t := 167) ?hr ?_; (case hd => rfl); (case hg => rfl); (case hr => first | (go_simp; done) | (go_simp; rfl)); intro gb279 hg w11 hbox hb; have n0_ := Aside0.mk (below_step bw hb); have n1_ := Aside0.mk (hbox); have n2_ := Aside0.mk ((bz bw hg : w.heap.size ≤ gb279)); have n3_ := Aside0.mk ((bz bw hg : w.heap.size ≤ gb279)); clear HB; have HB := n0_; have BK279 := n1_; have GW279 := n2_; have GE279 := n3_; clear n0_ n1_ n2_ n3_; clear hb hbox hg; obtain ⟨hcz12_0, hcz12_1, hcz12_2, hcz12_3, hfz12_0, hfz12_1, hfz12_2, hfz12_3⟩ := bc4 BK279.out; have p280 : 0 ≤ (x17_1 : Int) := oa; have q280 : x17_1 < (l1.length : Int) := oa; obtain ⟨ad280, A280_2, c280_2, e280, hx280_0, hx280_1, hx280_2, hx280_3, hl280_2, hi280_2⟩ := at_T167 HR1.out x17_1 p280 q280; cases e280; have hn280_0 : ad280.block ≠ gb279 := (by first | exact bn hx280_0 GW279.out | exact bm hx280_0 GW279.out); have hn280_1 : ad280.block ≠ gb279 := (by first | exact bn hx280_0 GW279.out | exact bm hx280_0 GW279.out); have hn280_2 : ad280.block ≠ gb279 := (by first | exact bn hx280_0 GW279.out | exact bm hx280_0 GW279.out); have hn280_3 : ad280.block ≠ gb279 := (by first | exact bn hx280_0 GW279.out | exact bm hx280_0 GW279.out); replace hx280_0 := hbc HB.out hx280_0; replace hx280_1 := hbc HB.out hx280_1; replace hx280_2 := hbc HB.out hx280_2; replace hx280_3 := hbc HB.out hx280_3; have HR280_2 := Aside0.mk hi280_2; have HC280_2 := Aside0.mk hl280_2; clear hi280_2 hl280_2; replace hx280_0 := fx ⟨gb279, 0, none⟩ (.int .i64 ((rd_T167 l0 x17_1).f0)) hx280_0; replace hx280_1 := fx ⟨gb279, 0, none⟩ (.int .i64 ((rd_T167 l0 x17_1).f0)) hx280_1; replace hx280_2 := fx ⟨gb279, 0, none⟩ (.int .i64 ((rd_T167 l0 x17_1).f0)) hx280_2; replace hx280_3 := fx ⟨gb279, 0, none⟩ (.int .i64 ((rd_T167 l0 x17_1).f0)) hx280_3; replace hx280_0 := fx ⟨gb279, 1, none⟩ (.string ((rd_T167 l0 x17_1).f1)) hx280_0; replace hx280_1 := fx ⟨gb279, 1, none⟩ (.string ((rd_T167 l0 x17_1).f1)) hx280_1; replace hx280_2 := fx ⟨gb279, 1, none⟩ (.string ((rd_T167 l0 x17_1).f1)) hx280_2; replace hx280_3 := fx ⟨gb279, 1, none⟩ (.string ((rd_T167 l0 x17_1).f1)) hx280_3; replace hx280_0 := fx ⟨gb279, 2, none⟩ (.slice A278_2 ((rd_T167 l0 x17_1).f2).length c278_2) hx280_0; replace hx280_1 := fx ⟨gb279, 2, none⟩ (.slice A278_2 ((rd_T167 l0 x17_1).f2).length c278_2) hx280_1; replace hx280_2 := fx ⟨gb279, 2, none⟩ (.slice A278_2 ((rd_T167 l0 x17_1).f2).length c278_2) hx280_2; replace hx280_3 := fx ⟨gb279, 2, none⟩ (.slice A278_2 ((rd_T167 l0 x17_1).f2).length c278_2) hx280_3; replace hx280_0 := fx ⟨gb279, 3, none⟩ (.string ((rd_T167 l0 x17_1).f3)) hx280_0; replace hx280_1 := fx ⟨gb279, 3, none⟩ (.string ((rd_T167 l0 x17_1).f3)) hx280_1; replace hx280_2 := fx ⟨gb279, 3, none⟩ (.string ((rd_T167 l0 x17_1).f3)) hx280_2; replace hx280_3 := fx ⟨gb279, 3, none⟩ (.string ((rd_T167 l0 x17_1).f3)) hx280_3; clear hn280_0; clear hn280_1; clear hn280_2; clear hn280_3; replace p280 := eq_true p280; replace q280 := eq_true q280) | ((with_reducible refine gate_dst (N := 9) rfl ?_); refine box_event ?hg (N := 9) ?hd (cs := #[.int .i64 0, .string (⟨#[]⟩ : ByteArray), .slice none 0 0, .string (⟨#[]⟩ : ByteArray)]) (t := 167) ?hr ?_; (case hd => rfl); (case hg => rfl); (case hr => first | (go_simp; done) | (go_simp; rfl)); intro gb281 hg w13 hbox hb; have n0_ := Aside0.mk (blk_below (g := gb279) (o := .cells #[.int .i64 ((rd_T167 l0 x17_1).f0), .string ((rd_T167 l0 x17_1).f1), .slice A278_2 ((rd_T167 l0 x17_1).f2).length c278_2, .string ((rd_T167 l0 x17_1).f3)] 167 (0, 0)) bx hb); have n1_ := Aside0.mk (below_step bw hb); have n2_ := Aside0.mk (hbox); have n3_ := Aside0.mk ((bz bw hg : w.heap.size ≤ gb281)); have n4_ := Aside0.mk ((bz bw hg : w.heap.size ≤ gb281)); have n5_ := Aside0.mk ((bl bx hg : gb279 ≠ gb281)); have n6_ := Aside0.mk ((bl' bx hg : gb281 ≠ gb279)); clear BK279; clear HB; have BK279 := n0_; have HB := n1_; have BK281 := n2_; have GW281 := n3_; have GE281 := n4_; have NB279_281 := n5_; have NB281_279 := n6_; clear n0_ n1_ n2_ n3_ n4_ n5_ n6_; clear hb hbox hg; have hnb14 := NB281_279.out; have hnc14 := NB279_281.out; obtain ⟨hcz15_0, hcz15_1, hcz15_2, hcz15_3, hfz15_0, hfz15_1, hfz15_2, hfz15_3⟩ := bc4 BK281.out; obtain ⟨hcz16_0, hcz16_1, hcz16_2, hcz16_3, hfz16_0, hfz16_1, hfz16_2, hfz16_3⟩ := bc4 BK279.out) | (go_at_call 167; (with_reducible refine (impl_sameSym.calls k1 ((rd_T167 l0 x17_1).f0) ((rd_T167 l0 x17_1).f1) _ _ ((rd_T167 l0 x17_1).f2) ((rd_T167 l0 x17_1).f3) ((rd_T167 l1 x17_1).f0) ((rd_T167 l1 x17_1).f1) _ _ ((rd_T167 l1 x17_1).f2) ((rd_T167 l1 x17_1).f3) true _ ?side1 ?side2 ?side3 ?side4 A9.out).mono ?_); (case side1 => exact Kd.C_below HR278_2.out bw); (case side2 => exact HC278_2.out); (case side3 => exact Kd.C_below HR280_2.out bw); (case side4 => exact HC280_2.out); rintro e w17 ⟨rfl, hb⟩; have n0_ := Aside0.mk (blk_below (g := gb279) (o := .cells #[.int .i64 ((rd_T167 l0 x17_1).f0), .string ((rd_T167 l0 x17_1).f1), .slice A278_2 ((rd_T167 l0 x17_1).f2).length c278_2, .string ((rd_T167 l0 x17_1).f3)] 167 (0, 0)) bx hb); have n1_ := Aside0.mk (blk_below (g := gb281) (o := .cells #[.int .i64 ((rd_T167 l1 x17_1).f0), .string ((rd_T167 l1 x17_1).f1), .slice A280_2 ((rd_T167 l1 x17_1).f2).length c280_2, .string ((rd_T167 l1 x17_1).f3)] 167 (0, 0)) bx hb); have n2_ := Aside0.mk (below_step bw hb); clear BK279; clear BK281; clear HB; have BK279 := n0_; have BK281 := n1_; have HB := n2_; clear n0_ n1_ n2_; (try clear hb); (try clear hb2); (try clear hk); (try clear hi)))
                  go_roundg k1
                  case measure => have := HK1.out; omega
                  case rel => exact ⟨(wrap64 (x17_1 + 1)), (by first | rfl | (simp; done) | (simp [*]; done) | (simp [isE0, isE1]; done)), H', ⟨by have := HK1.out; omega⟩, ⟨by repeat (first | (with_reducible first | exact HB.out | apply below_alloc | apply pw_below_drewN | apply below_drew1 | refine below_set ?_ GE279.out | refine below_set ?_ GE281.out) | exact HB.out)⟩⟩
                · replace c10 := Bool.eq_false_iff.mpr c10
                  subst c10
                  have H1 : (some false) = some r := by rw [if_neg (show ¬ (false = true) by decide)] at H; exact H
                  clear H
                  have H := H1
                  clear H1
                  obtain rfl := Option.some.inj H
                  have p278 : 0 ≤ (x17_1 : Int) := oa
                  have q278 : x17_1 < (l0.length : Int) := oa
                  obtain ⟨ad278, A278_2, c278_2, e278, hx278_0, hx278_1, hx278_2, hx278_3, hl278_2, hi278_2⟩ := at_T167 HR0.out x17_1 p278 q278
                  cases e278
                  replace hx278_0 := hbc HB.out hx278_0
                  replace hx278_1 := hbc HB.out hx278_1
                  replace hx278_2 := hbc HB.out hx278_2
                  replace hx278_3 := hbc HB.out hx278_3
                  have HR278_2 := Aside0.mk hi278_2
                  have HC278_2 := Aside0.mk hl278_2
                  clear hi278_2 hl278_2
                  replace p278 := eq_true p278
                  replace q278 := eq_true q278
                  go_wp2_with (first | ((with_reducible refine gate_dst (N := 8) rfl ?_); refine box_event ?hg (N := 8) ?hd (cs := #[.int .i64 0, .string (⟨#[]⟩ : ByteArray), .slice none 0 0, .string (⟨#[]⟩ : ByteArray)]) (t := 167) ?hr ?_; (case hd => rfl); (case hg => rfl); (case hr => first | (go_simp; done) | (go_simp; rfl)); intro gb279 hg w18 hbox hb; have n0_ := Aside0.mk (below_step bw hb); have n1_ := Aside0.mk (hbox); have n2_ := Aside0.mk ((bz bw hg : w.heap.size ≤ gb279)); have n3_ := Aside0.mk ((bz bw hg : w.heap.size ≤ gb279)); clear HB; have HB := n0_; have BK279 := n1_; have GW279 := n2_; have GE279 := n3_; clear n0_ n1_ n2_ n3_; clear hb hbox hg; obtain ⟨hcz19_0, hcz19_1, hcz19_2, hcz19_3, hfz19_0, hfz19_1, hfz19_2, hfz19_3⟩ := bc4 BK279.out; have p280 : 0 ≤ (x17_1 : Int) := oa; have q280 : x17_1 < (l1.length : Int) := oa; obtain ⟨ad280, A280_2, c280_2, e280, hx280_0, hx280_1, hx280_2, hx280_3, hl280_2, hi280_2⟩ := at_T167 HR1.out x17_1 p280 q280; cases e280; have hn280_0 : ad280.block ≠ gb279 := (by first | exact bn hx280_0 GW279.out | exact bm hx280_0 GW279.out); have hn280_1 : ad280.block ≠ gb279 := (by first | exact bn hx280_0 GW279.out | exact bm hx280_0 GW279.out); have hn280_2 : ad280.block ≠ gb279 := (by first | exact bn hx280_0 GW279.out | exact bm hx280_0 GW279.out); have hn280_3 : ad280.block ≠ gb279 := (by first | exact bn hx280_0 GW279.out | exact bm hx280_0 GW279.out); replace hx280_0 := hbc HB.out hx280_0; replace hx280_1 := hbc HB.out hx280_1; replace hx280_2 := hbc HB.out hx280_2; replace hx280_3 := hbc HB.out hx280_3; have HR280_2 := Aside0.mk hi280_2; have HC280_2 := Aside0.mk hl280_2; clear hi280_2 hl280_2; replace hx280_0 := fx ⟨gb279, 0, none⟩ (.int .i64 ((rd_T167 l0 x17_1).f0)) hx280_0; replace hx280_1 := fx ⟨gb279, 0, none⟩ (.int .i64 ((rd_T167 l0 x17_1).f0)) hx280_1; replace hx280_2 := fx ⟨gb279, 0, none⟩ (.int .i64 ((rd_T167 l0 x17_1).f0)) hx280_2; replace hx280_3 := fx ⟨gb279, 0, none⟩ (.int .i64 ((rd_T167 l0 x17_1).f0)) hx280_3; replace hx280_0 := fx ⟨gb279, 1, none⟩ (.string ((rd_T167 l0 x17_1).f1)) hx280_0; replace hx280_1 := fx ⟨gb279, 1, none⟩ (.string ((rd_T167 l0 x17_1).f1)) hx280_1; replace hx280_2 := fx ⟨gb279, 1, none⟩ (.string ((rd_T167 l0 x17_1).f1)) hx280_2; replace hx280_3 := fx ⟨gb279, 1, none⟩ (.string ((rd_T167 l0 x17_1).f1)) hx280_3; replace hx280_0 := fx ⟨gb279, 2, none⟩ (.slice A278_2 ((rd_T167 l0 x17_1).f2).length c278_2) hx280_0; replace hx280_1 := fx ⟨gb279, 2, none⟩ (.slice A278_2 ((rd_T167 l0 x17_1).f2).length c278_2) hx280_1; replace hx280_2 := fx ⟨gb279, 2, none⟩ (.slice A278_2 ((rd_T167 l0 x17_1).f2).length c278_2) hx280_2; replace hx280_3 := fx ⟨gb279, 2, none⟩ (.slice A278_2 ((rd_T167 l0 x17_1).f2).length c278_2) hx280_3; replace hx280_0 := fx ⟨gb279, 3, none⟩ (.string ((rd_T167 l0 x17_1).f3)) hx280_0; replace hx280_1 := fx ⟨gb279, 3, none⟩ (.string ((rd_T167 l0 x17_1).f3)) hx280_1; replace hx280_2 := fx ⟨gb279, 3, none⟩ (.string ((rd_T167 l0 x17_1).f3)) hx280_2; replace hx280_3 := fx ⟨gb279, 3, none⟩ (.string ((rd_T167 l0 x17_1).f3)) hx280_3; clear hn280_0; clear hn280_1; clear hn280_2; clear hn280_3; replace p280 := eq_true p280; replace q280 := eq_true q280) | ((with_reducible refine gate_dst (N := 9) rfl ?_); refine box_event ?hg (N := 9) ?hd (cs := #[.int .i64 0, .string (⟨#[]⟩ : ByteArray), .slice none 0 0, .string (⟨#[]⟩ : ByteArray)]) (t := 167) ?hr ?_; (case hd => rfl); (case hg => rfl); (case hr => first | (go_simp; done) | (go_simp; rfl)); intro gb281 hg w20 hbox hb; have n0_ := Aside0.mk (blk_below (g := gb279) (o := .cells #[.int .i64 ((rd_T167 l0 x17_1).f0), .string ((rd_T167 l0 x17_1).f1), .slice A278_2 ((rd_T167 l0 x17_1).f2).length c278_2, .string ((rd_T167 l0 x17_1).f3)] 167 (0, 0)) bx hb); have n1_ := Aside0.mk (below_step bw hb); have n2_ := Aside0.mk (hbox); have n3_ := Aside0.mk ((bz bw hg : w.heap.size ≤ gb281)); have n4_ := Aside0.mk ((bz bw hg : w.heap.size ≤ gb281)); have n5_ := Aside0.mk ((bl bx hg : gb279 ≠ gb281)); have n6_ := Aside0.mk ((bl' bx hg : gb281 ≠ gb279)); clear BK279; clear HB; have BK279 := n0_; have HB := n1_; have BK281 := n2_; have GW281 := n3_; have GE281 := n4_; have NB279_281 := n5_; have NB281_279 := n6_; clear n0_ n1_ n2_ n3_ n4_ n5_ n6_; clear hb hbox hg; have hnb21 := NB281_279.out; have hnc21 := NB279_281.out; obtain ⟨hcz22_0, hcz22_1, hcz22_2, hcz22_3, hfz22_0, hfz22_1, hfz22_2, hfz22_3⟩ := bc4 BK281.out; obtain ⟨hcz23_0, hcz23_1, hcz23_2, hcz23_3, hfz23_0, hfz23_1, hfz23_2, hfz23_3⟩ := bc4 BK279.out) | (go_at_call 167; (with_reducible refine (impl_sameSym.calls k1 ((rd_T167 l0 x17_1).f0) ((rd_T167 l0 x17_1).f1) _ _ ((rd_T167 l0 x17_1).f2) ((rd_T167 l0 x17_1).f3) ((rd_T167 l1 x17_1).f0) ((rd_T167 l1 x17_1).f1) _ _ ((rd_T167 l1 x17_1).f2) ((rd_T167 l1 x17_1).f3) false _ ?side1 ?side2 ?side3 ?side4 A9.out).mono ?_); (case side1 => exact Kd.C_below HR278_2.out bw); (case side2 => exact HC278_2.out); (case side3 => exact Kd.C_below HR280_2.out bw); (case side4 => exact HC280_2.out); rintro e w24 ⟨rfl, hb⟩; have n0_ := Aside0.mk (blk_below (g := gb279) (o := .cells #[.int .i64 ((rd_T167 l0 x17_1).f0), .string ((rd_T167 l0 x17_1).f1), .slice A278_2 ((rd_T167 l0 x17_1).f2).length c278_2, .string ((rd_T167 l0 x17_1).f3)] 167 (0, 0)) bx hb); have n1_ := Aside0.mk (blk_below (g := gb281) (o := .cells #[.int .i64 ((rd_T167 l1 x17_1).f0), .string ((rd_T167 l1 x17_1).f1), .slice A280_2 ((rd_T167 l1 x17_1).f2).length c280_2, .string ((rd_T167 l1 x17_1).f3)] 167 (0, 0)) bx hb); have n2_ := Aside0.mk (below_step bw hb); clear BK279; clear BK281; clear HB; have BK279 := n0_; have BK281 := n1_; have HB := n2_; clear n0_ n1_ n2_; (try clear hb); (try clear hb2); (try clear hk); (try clear hi)))
                  go_ret
                  exact ⟨by first | rfl | (simp [errW_none, errW_some] <;> rfl) | (simp [*, errW_none, errW_some] <;> rfl), by repeat (first | (with_reducible first | exact HB.out | apply below_alloc | apply pw_below_drewN | apply below_drew1 | refine below_set ?_ GE279.out | refine below_set ?_ GE281.out) | exact HB.out)⟩
              · rw [if_neg c8] at H
                exact absurd H (by simp)
            · rw [if_neg c7] at H
              exact absurd H (by simp)
          · rw [if_neg c6] at H
            exact absurd H (by simp)
        · rw [if_neg c5] at H
          have c5b0 : decide (x17_1 < (l0.length : Int)) = false := decide_eq_false c5
          clear c5
          obtain rfl := Option.some.inj H
          go_wp2
          go_ret
          exact ⟨by first | rfl | (simp [errW_none, errW_some] <;> rfl) | (simp [*, errW_none, errW_some] <;> rfl), by repeat (first | (with_reducible first | exact HB.out | apply below_alloc | apply pw_below_drewN | apply below_drew1) | exact HB.out)⟩
  · rw [if_neg c4] at H
    have c4b0 : ((l0.length : Int) == (l1.length : Int)) = false := beq_eq_false_iff_ne.mpr c4
    have c4b1 : ((l0.length : Int) != (l1.length : Int)) = true := bne_iff_ne.mpr c4
    have c4b2 : (l0.length == l1.length) = false := by first | simpa using c4 | (simp at c4 ⊢; omega)
    obtain rfl := Option.some.inj H
    go_enter Try.func166, Try.ntmps166
    go_wp2
    go_ret
    exact ⟨by first | rfl | (simp [errW_none, errW_some] <;> rfl) | (simp [*, errW_none, errW_some] <;> rfl), by repeat (first | (with_reducible first | exact HB.out | apply below_alloc | apply pw_below_drewN | apply below_drew1) | exact HB.out)⟩

/-! ### impl_sameAlt: function 119 -/
def impl_sameAlt.f (k : Nat) (l0_0 : List (S167)) (l1_0 : List (S167)) : Option (Bool) := (impl_Sym.f k l0_0 l1_0 0).bind fun t285 => (some t285)
theorem impl_sameAlt.mono : ∀ a0 a1 k, LeO (impl_sameAlt.f k a0 a1) (impl_sameAlt.f (k + 1) a0 a1) := by
  intro a0 a1 k
  unfold impl_sameAlt.f
  repeat' first
      | (with_reducible exact impl_Sym.mono _ _ _ _)
      | (with_reducible exact LeO.refl _)
      | (with_reducible exact LeO.none _)
      | (with_reducible refine LeO.ite ?_ ?_)
      | (with_reducible refine LeO.bind ?_ (fun _ => ?_))
      | exact impl_Sym.mono _ _ _ _
      | exact LeO.none _
      | refine LeO.ite ?_ ?_
      | refine LeO.bind ?_ (fun _ => ?_)
set_option maxHeartbeats 8000000 in
set_option maxRecDepth 100000 in
theorem impl_sameAlt.calls (k : Nat) (A0_0 : Option Addr) (c0_0 : Nat) (l0_0 : List (S167)) (A1_0 : Option Addr) (c1_0 : Nat) (l1_0 : List (S167)) (r : Bool) (w : World) (hr0_0 : Kd.C k167 w A0_0 l0_0.length l0_0) (hc0_0 : l0_0.length ≤ c0_0) (hr1_0 : Kd.C k167 w A1_0 l1_0.length l1_0) (hc1_0 : l1_0.length ≤ c1_0) (h : impl_sameAlt.f k l0_0 l1_0 = some r) :
    Calls Try.prog 119 #[.agg #[.slice A0_0 l0_0.length c0_0], .agg #[.slice A1_0 l1_0.length c1_0]] w fun e w' => e = .returned (.bool r) ∧ Below w.heap.size w w' := by
  have hu165 := Try.underlying165
  have HR0_0 := Aside0.mk hr0_0
  have HC0_0 := Aside0.mk hc0_0
  clear hr0_0 hc0_0
  have HR1_0 := Aside0.mk hr1_0
  have HC1_0 := Aside0.mk hc1_0
  clear hr1_0 hc1_0
  have HB := Aside0.mk (Below.refl w.heap.size w)
  have H : ((impl_Sym.f k l0_0 l1_0 0).bind fun t285 => (some t285)) = some r := h
  clear h
  replace H := Option.bind_eq_some_iff.mp H
  obtain ⟨t285, A30, H⟩ := H
  replace H : (some t285) = some r := H
  have A3 := Aside0.mk A30
  clear A30
  obtain rfl := Option.some.inj H
  go_enter Try.func119, Try.ntmps119
  go_wp2_with (first | ((with_reducible refine gate_dst (N := 2) rfl ?_); refine box_event ?hg (N := 2) ?hd (cs := #[.slice A0_0 l0_0.length c0_0]) (t := 165) ?hr ?_; (case hd => rfl); (case hg => rfl); (case hr => first | (go_simp; done) | (go_simp; rfl)); intro gb283 hg w4 hbox hb; have n0_ := Aside0.mk (below_step bw hb); have n1_ := Aside0.mk (hbox); have n2_ := Aside0.mk ((bz bw hg : w.heap.size ≤ gb283)); have n3_ := Aside0.mk ((bz bw hg : w.heap.size ≤ gb283)); clear HB; have HB := n0_; have BK283 := n1_; have GW283 := n2_; have GE283 := n3_; clear n0_ n1_ n2_ n3_; clear hb hbox hg) | ((with_reducible refine gate_dst (N := 3) rfl ?_); refine box_event ?hg (N := 3) ?hd (cs := #[.slice A1_0 l1_0.length c1_0]) (t := 165) ?hr ?_; (case hd => rfl); (case hg => rfl); (case hr => first | (go_simp; done) | (go_simp; rfl)); intro gb284 hg w5 hbox hb; have n0_ := Aside0.mk (blk_below (g := gb283) (o := .cells #[.slice A0_0 l0_0.length c0_0] 165 (0, 0)) bx hb); have n1_ := Aside0.mk (below_step bw hb); have n2_ := Aside0.mk (hbox); have n3_ := Aside0.mk ((bz bw hg : w.heap.size ≤ gb284)); have n4_ := Aside0.mk ((bz bw hg : w.heap.size ≤ gb284)); have n5_ := Aside0.mk ((bl bx hg : gb283 ≠ gb284)); have n6_ := Aside0.mk ((bl' bx hg : gb284 ≠ gb283)); clear BK283; clear HB; have BK283 := n0_; have HB := n1_; have BK284 := n2_; have GW284 := n3_; have GE284 := n4_; have NB283_284 := n5_; have NB284_283 := n6_; clear n0_ n1_ n2_ n3_ n4_ n5_ n6_; clear hb hbox hg; have hnb6 := NB283_284.out; have hnc6 := NB284_283.out; obtain ⟨hcz7_0, hfz7_0⟩ := bc1 BK283.out; obtain ⟨hcz8_0, hfz8_0⟩ := bc1 BK284.out) | ((with_reducible refine gate_callee (f := 166) rfl ?_); refine goesL_ (some 9) rfl rfl Try.func166 (by kernel_rfl) rfl #[.slice A0_0 l0_0.length c0_0, .slice A1_0 l1_0.length c1_0, .func (.func 167) #[] #[]] rfl (by (try simp only [List.map_toArray, List.map_cons, List.map_nil]); first | done | rfl | (simp only [List.length_drop, List.length_take]; rfl)) ?_; (with_reducible refine (impl_Sym.calls k _ _ l0_0 _ _ l1_0 0 t285 _ ?side1 ?side2 ?side3 ?side4 A3.out).mono ?_); (case side1 => exact kb); (case side2 => exact HC0_0.out); (case side3 => exact kb); (case side4 => exact HC1_0.out); rintro e w9 ⟨rfl, hb⟩; refine ⟨_, rfl, ?_⟩; have n0_ := Aside0.mk (blk_below (g := gb283) (o := .cells #[.slice A0_0 l0_0.length c0_0] 165 (0, 0)) bx hb); have n1_ := Aside0.mk (blk_below (g := gb284) (o := .cells #[.slice A1_0 l1_0.length c1_0] 165 (0, 0)) bx hb); have n2_ := Aside0.mk (below_step bw hb); clear BK283; clear BK284; clear HB; have BK283 := n0_; have BK284 := n1_; have HB := n2_; clear n0_ n1_ n2_; (try clear hb); (try clear hb2); (try clear hk); (try clear hi)))
  go_ret
  exact ⟨by first | rfl | (simp [errW_none, errW_some] <;> rfl) | (simp [*, errW_none, errW_some] <;> rfl), by repeat (first | (with_reducible first | exact HB.out | apply below_alloc | apply pw_below_drewN | apply below_drew1 | refine below_set ?_ GE283.out | refine below_set ?_ GE284.out) | exact HB.out)⟩

/-! ### impl_Alt: function 118 -/
def impl_Alt.l0 : Nat → List (S165) → List (S165) → Int → Int → Option (Bool)
  | 0, _, _, _, _ => none
  | k + 1, x1, x15, x16, x17 => if x17 < x16 then (if 0 ≤ x17 then (if x17 < (x15.length : Int) then (if x17 < (x1.length : Int) then ((impl_sameAlt.f k ((rd_T165 x15 x17).f0) ((rd_T165 x1 x17).f0)).bind fun t290 => (if t290 = true then (impl_Alt.l0 k x1 x15 x16 (wrap64 (x17 + 1))) else (some false))) else (none)) else (none)) else (none)) else (some true)
def impl_Alt.f (k : Nat) (l0 : List (S165)) (l1 : List (S165)) (a2 : Int) : Option (Bool) := if (l0.length : Int) = (l1.length : Int) then (impl_Alt.l0 k l1 l0 (l0.length : Int) 0) else (some false)
theorem impl_Alt.mono_l : ∀ k, (∀ y0 y1 y2 y3, LeO (impl_Alt.l0 k y0 y1 y2 y3) (impl_Alt.l0 (k + 1) y0 y1 y2 y3))
  | 0 => fun _ _ _ _ r h => by simp [impl_Alt.l0] at h
  | k + 1 => by
    have ih0 := impl_Alt.mono_l k
    · intro y0 y1 y2 y3
      unfold impl_Alt.l0
      repeat' first
      | (with_reducible exact ih0 _ _ _ _)
      | (with_reducible exact impl_sameAlt.mono _ _ _)
      | (with_reducible exact LeO.refl _)
      | (with_reducible exact LeO.none _)
      | (with_reducible refine LeO.ite ?_ ?_)
      | (with_reducible refine LeO.bind ?_ (fun _ => ?_))
      | exact ih0 _ _ _ _
      | exact impl_sameAlt.mono _ _ _
      | exact LeO.none _
      | refine LeO.ite ?_ ?_
      | refine LeO.bind ?_ (fun _ => ?_)
theorem impl_Alt.mono : ∀ a0 a1 a2 k, LeO (impl_Alt.f k a0 a1 a2) (impl_Alt.f (k + 1) a0 a1 a2) := by
  intro a0 a1 a2 k
  have ih0 := impl_Alt.mono_l k
  unfold impl_Alt.f
  repeat' first
      | (with_reducible exact ih0 _ _ _ _)
      | (with_reducible exact impl_sameAlt.mono _ _ _)
      | (with_reducible exact LeO.refl _)
      | (with_reducible exact LeO.none _)
      | (with_reducible refine LeO.ite ?_ ?_)
      | (with_reducible refine LeO.bind ?_ (fun _ => ?_))
      | exact ih0 _ _ _ _
      | exact impl_sameAlt.mono _ _ _
      | exact LeO.none _
      | refine LeO.ite ?_ ?_
      | refine LeO.bind ?_ (fun _ => ?_)
set_option maxHeartbeats 8000000 in
set_option maxRecDepth 100000 in
theorem impl_Alt.calls (k : Nat) (A0 : Option Addr) (c0 : Nat) (l0 : List (S165)) (A1 : Option Addr) (c1 : Nat) (l1 : List (S165)) (a2 : Int) (r : Bool) (w : World) (hr0 : Kd.C k165 w A0 l0.length l0) (hc0 : l0.length ≤ c0) (hr1 : Kd.C k165 w A1 l1.length l1) (hc1 : l1.length ≤ c1) (h : impl_Alt.f k l0 l1 a2 = some r) :
    Calls Try.prog 118 #[.slice A0 l0.length c0, .slice A1 l1.length c1, .func (.func 119) #[] #[]] w fun e w' => e = .returned (.bool r) ∧ Below w.heap.size w w' := by
  have hu165 := Try.underlying165
  have HR0 := Aside0.mk hr0
  have HC0 := Aside0.mk hc0
  clear hr0 hc0
  have HR1 := Aside0.mk hr1
  have HC1 := Aside0.mk hc1
  clear hr1 hc1
  have HB := Aside0.mk (Below.refl w.heap.size w)
  have H : (if (l0.length : Int) = (l1.length : Int) then (impl_Alt.l0 k l1 l0 (l0.length : Int) 0) else (some false)) = some r := h
  clear h
  by_cases c4 : (l0.length : Int) = (l1.length : Int)
  · rw [if_pos c4] at H
    have c4b0 : ((l0.length : Int) == (l1.length : Int)) = true := beq_iff_eq.mpr c4
    have c4b1 : ((l0.length : Int) != (l1.length : Int)) = false := bne_eq_false_iff_eq.mpr c4
    have c4b2 : (l0.length == l1.length) = true := by first | simpa using c4 | (simp at c4 ⊢; omega)
    clear c4
    have H' := Aside0.mk H
    clear H
    go_enter Try.func118, Try.ntmps118
    go_wp2
    go_loopg [17] k (fun kq v17 w' => ∃ (x17_1 : Int), v17 = .int .i64 x17_1 ∧ Aside0 (impl_Alt.l0 kq l1 l0 (l0.length : Int) x17_1 = some r) ∧ Aside0 (kq ≤ k) ∧ Aside0 (Below w.heap.size w w'))
    case atStart => exact ⟨(0), (by first | rfl | (simp; done) | (simp [*]; done) | (simp [isE0, isE1]; done)), H', ⟨Nat.le_refl _⟩, ⟨by repeat (first | (with_reducible first | exact HB.out | apply below_alloc | apply pw_below_drewN | apply below_drew1) | exact HB.out)⟩⟩
    case round =>
      clear H'
      try clear c1
      try clear p2
      try clear c4
      try clear c4b0
      try clear c4b1
      try clear c4b2
      obtain ⟨x17_1, rfl, HA, HK1, HB⟩ := hrel
      cases gk with
      | zero => exact absurd HA.out (by simp [impl_Alt.l0])
      | succ k1 =>
        have H := HA.out
        clear HA
        simp only [impl_Alt.l0] at H
        by_cases c5 : x17_1 < (l0.length : Int)
        · rw [if_pos c5] at H
          have c5b0 : decide (x17_1 < (l0.length : Int)) = true := decide_eq_true c5
          clear c5
          by_cases c6 : 0 ≤ x17_1
          · rw [if_pos c6] at H
            have c6b0 : decide (0 ≤ x17_1) = true := decide_eq_true c6
            clear c6
            by_cases c7 : x17_1 < (l0.length : Int)
            · rw [if_pos c7] at H
              have c7b0 : decide (x17_1 < (l0.length : Int)) = true := decide_eq_true c7
              clear c7
              by_cases c8 : x17_1 < (l1.length : Int)
              · rw [if_pos c8] at H
                have c8b0 : decide (x17_1 < (l1.length : Int)) = true := decide_eq_true c8
                clear c8
                replace H := Option.bind_eq_some_iff.mp H
                obtain ⟨t290, A90, H⟩ := H
                replace H : (if t290 = true then (impl_Alt.l0 k1 l1 l0 (l0.length : Int) (wrap64 (x17_1 + 1))) else (some false)) = some r := H
                have A9 := Aside0.mk A90
                clear A90
                by_cases c10 : t290 = true
                · subst c10
                  have H1 : (impl_Alt.l0 k1 l1 l0 (l0.length : Int) (wrap64 (x17_1 + 1))) = some r := by rw [if_pos rfl] at H; exact H
                  clear H
                  have H := H1
                  clear H1
                  have H' := Aside0.mk H
                  clear H
                  have p286 : 0 ≤ (x17_1 : Int) := oa
                  have q286 : x17_1 < (l0.length : Int) := oa
                  obtain ⟨ad286, A286_0, c286_0, e286, hx286_0, hl286_0, hi286_0⟩ := at_T165 HR0.out x17_1 p286 q286
                  cases e286
                  replace hx286_0 := hbc HB.out hx286_0
                  have HR286_0 := Aside0.mk hi286_0
                  have HC286_0 := Aside0.mk hl286_0
                  clear hi286_0 hl286_0
                  replace p286 := eq_true p286
                  replace q286 := eq_true q286
                  go_wp2_with (first | ((with_reducible refine gate_dst (N := 8) rfl ?_); refine box_event ?hg (N := 8) ?hd (cs := #[.slice none 0 0]) (t := 165) ?hr ?_; (case hd => rfl); (case hg => rfl); (case hr => first | (go_simp; done) | (go_simp; rfl)); intro gb287 hg w11 hbox hb; have n0_ := Aside0.mk (below_step bw hb); have n1_ := Aside0.mk (hbox); have n2_ := Aside0.mk ((bz bw hg : w.heap.size ≤ gb287)); have n3_ := Aside0.mk ((bz bw hg : w.heap.size ≤ gb287)); clear HB; have HB := n0_; have BK287 := n1_; have GW287 := n2_; have GE287 := n3_; clear n0_ n1_ n2_ n3_; clear hb hbox hg; obtain ⟨hcz12_0, hfz12_0⟩ := bc1 BK287.out; have p288 : 0 ≤ (x17_1 : Int) := oa; have q288 : x17_1 < (l1.length : Int) := oa; obtain ⟨ad288, A288_0, c288_0, e288, hx288_0, hl288_0, hi288_0⟩ := at_T165 HR1.out x17_1 p288 q288; cases e288; have hn288_0 : ad288.block ≠ gb287 := (by first | exact bn hx288_0 GW287.out | exact bm hx288_0 GW287.out); replace hx288_0 := hbc HB.out hx288_0; have HR288_0 := Aside0.mk hi288_0; have HC288_0 := Aside0.mk hl288_0; clear hi288_0 hl288_0; replace hx288_0 := fx ⟨gb287, 0, none⟩ (.slice A286_0 ((rd_T165 l0 x17_1).f0).length c286_0) hx288_0; clear hn288_0; replace p288 := eq_true p288; replace q288 := eq_true q288) | ((with_reducible refine gate_dst (N := 9) rfl ?_); refine box_event ?hg (N := 9) ?hd (cs := #[.slice none 0 0]) (t := 165) ?hr ?_; (case hd => rfl); (case hg => rfl); (case hr => first | (go_simp; done) | (go_simp; rfl)); intro gb289 hg w13 hbox hb; have n0_ := Aside0.mk (blk_below (g := gb287) (o := .cells #[.slice A286_0 ((rd_T165 l0 x17_1).f0).length c286_0] 165 (0, 0)) bx hb); have n1_ := Aside0.mk (below_step bw hb); have n2_ := Aside0.mk (hbox); have n3_ := Aside0.mk ((bz bw hg : w.heap.size ≤ gb289)); have n4_ := Aside0.mk ((bz bw hg : w.heap.size ≤ gb289)); have n5_ := Aside0.mk ((bl bx hg : gb287 ≠ gb289)); have n6_ := Aside0.mk ((bl' bx hg : gb289 ≠ gb287)); clear BK287; clear HB; have BK287 := n0_; have HB := n1_; have BK289 := n2_; have GW289 := n3_; have GE289 := n4_; have NB287_289 := n5_; have NB289_287 := n6_; clear n0_ n1_ n2_ n3_ n4_ n5_ n6_; clear hb hbox hg; have hnb14 := NB289_287.out; have hnc14 := NB287_289.out; obtain ⟨hcz15_0, hfz15_0⟩ := bc1 BK289.out; obtain ⟨hcz16_0, hfz16_0⟩ := bc1 BK287.out) | (go_at_call 119; (with_reducible refine (impl_sameAlt.calls k1 _ _ ((rd_T165 l0 x17_1).f0) _ _ ((rd_T165 l1 x17_1).f0) true _ ?side1 ?side2 ?side3 ?side4 A9.out).mono ?_); (case side1 => exact Kd.C_below HR286_0.out bw); (case side2 => exact HC286_0.out); (case side3 => exact Kd.C_below HR288_0.out bw); (case side4 => exact HC288_0.out); rintro e w17 ⟨rfl, hb⟩; have n0_ := Aside0.mk (blk_below (g := gb287) (o := .cells #[.slice A286_0 ((rd_T165 l0 x17_1).f0).length c286_0] 165 (0, 0)) bx hb); have n1_ := Aside0.mk (blk_below (g := gb289) (o := .cells #[.slice A288_0 ((rd_T165 l1 x17_1).f0).length c288_0] 165 (0, 0)) bx hb); have n2_ := Aside0.mk (below_step bw hb); clear BK287; clear BK289; clear HB; have BK287 := n0_; have BK289 := n1_; have HB := n2_; clear n0_ n1_ n2_; (try clear hb); (try clear hb2); (try clear hk); (try clear hi)))
                  go_roundg k1
                  case measure => have := HK1.out; omega
                  case rel => exact ⟨(wrap64 (x17_1 + 1)), (by first | rfl | (simp; done) | (simp [*]; done) | (simp [isE0, isE1]; done)), H', ⟨by have := HK1.out; omega⟩, ⟨by repeat (first | (with_reducible first | exact HB.out | apply below_alloc | apply pw_below_drewN | apply below_drew1 | refine below_set ?_ GE287.out | refine below_set ?_ GE289.out) | exact HB.out)⟩⟩
                · replace c10 := Bool.eq_false_iff.mpr c10
                  subst c10
                  have H1 : (some false) = some r := by rw [if_neg (show ¬ (false = true) by decide)] at H; exact H
                  clear H
                  have H := H1
                  clear H1
                  obtain rfl := Option.some.inj H
                  have p286 : 0 ≤ (x17_1 : Int) := oa
                  have q286 : x17_1 < (l0.length : Int) := oa
                  obtain ⟨ad286, A286_0, c286_0, e286, hx286_0, hl286_0, hi286_0⟩ := at_T165 HR0.out x17_1 p286 q286
                  cases e286
                  replace hx286_0 := hbc HB.out hx286_0
                  have HR286_0 := Aside0.mk hi286_0
                  have HC286_0 := Aside0.mk hl286_0
                  clear hi286_0 hl286_0
                  replace p286 := eq_true p286
                  replace q286 := eq_true q286
                  go_wp2_with (first | ((with_reducible refine gate_dst (N := 8) rfl ?_); refine box_event ?hg (N := 8) ?hd (cs := #[.slice none 0 0]) (t := 165) ?hr ?_; (case hd => rfl); (case hg => rfl); (case hr => first | (go_simp; done) | (go_simp; rfl)); intro gb287 hg w18 hbox hb; have n0_ := Aside0.mk (below_step bw hb); have n1_ := Aside0.mk (hbox); have n2_ := Aside0.mk ((bz bw hg : w.heap.size ≤ gb287)); have n3_ := Aside0.mk ((bz bw hg : w.heap.size ≤ gb287)); clear HB; have HB := n0_; have BK287 := n1_; have GW287 := n2_; have GE287 := n3_; clear n0_ n1_ n2_ n3_; clear hb hbox hg; obtain ⟨hcz19_0, hfz19_0⟩ := bc1 BK287.out; have p288 : 0 ≤ (x17_1 : Int) := oa; have q288 : x17_1 < (l1.length : Int) := oa; obtain ⟨ad288, A288_0, c288_0, e288, hx288_0, hl288_0, hi288_0⟩ := at_T165 HR1.out x17_1 p288 q288; cases e288; have hn288_0 : ad288.block ≠ gb287 := (by first | exact bn hx288_0 GW287.out | exact bm hx288_0 GW287.out); replace hx288_0 := hbc HB.out hx288_0; have HR288_0 := Aside0.mk hi288_0; have HC288_0 := Aside0.mk hl288_0; clear hi288_0 hl288_0; replace hx288_0 := fx ⟨gb287, 0, none⟩ (.slice A286_0 ((rd_T165 l0 x17_1).f0).length c286_0) hx288_0; clear hn288_0; replace p288 := eq_true p288; replace q288 := eq_true q288) | ((with_reducible refine gate_dst (N := 9) rfl ?_); refine box_event ?hg (N := 9) ?hd (cs := #[.slice none 0 0]) (t := 165) ?hr ?_; (case hd => rfl); (case hg => rfl); (case hr => first | (go_simp; done) | (go_simp; rfl)); intro gb289 hg w20 hbox hb; have n0_ := Aside0.mk (blk_below (g := gb287) (o := .cells #[.slice A286_0 ((rd_T165 l0 x17_1).f0).length c286_0] 165 (0, 0)) bx hb); have n1_ := Aside0.mk (below_step bw hb); have n2_ := Aside0.mk (hbox); have n3_ := Aside0.mk ((bz bw hg : w.heap.size ≤ gb289)); have n4_ := Aside0.mk ((bz bw hg : w.heap.size ≤ gb289)); have n5_ := Aside0.mk ((bl bx hg : gb287 ≠ gb289)); have n6_ := Aside0.mk ((bl' bx hg : gb289 ≠ gb287)); clear BK287; clear HB; have BK287 := n0_; have HB := n1_; have BK289 := n2_; have GW289 := n3_; have GE289 := n4_; have NB287_289 := n5_; have NB289_287 := n6_; clear n0_ n1_ n2_ n3_ n4_ n5_ n6_; clear hb hbox hg; have hnb21 := NB289_287.out; have hnc21 := NB287_289.out; obtain ⟨hcz22_0, hfz22_0⟩ := bc1 BK289.out; obtain ⟨hcz23_0, hfz23_0⟩ := bc1 BK287.out) | (go_at_call 119; (with_reducible refine (impl_sameAlt.calls k1 _ _ ((rd_T165 l0 x17_1).f0) _ _ ((rd_T165 l1 x17_1).f0) false _ ?side1 ?side2 ?side3 ?side4 A9.out).mono ?_); (case side1 => exact Kd.C_below HR286_0.out bw); (case side2 => exact HC286_0.out); (case side3 => exact Kd.C_below HR288_0.out bw); (case side4 => exact HC288_0.out); rintro e w24 ⟨rfl, hb⟩; have n0_ := Aside0.mk (blk_below (g := gb287) (o := .cells #[.slice A286_0 ((rd_T165 l0 x17_1).f0).length c286_0] 165 (0, 0)) bx hb); have n1_ := Aside0.mk (blk_below (g := gb289) (o := .cells #[.slice A288_0 ((rd_T165 l1 x17_1).f0).length c288_0] 165 (0, 0)) bx hb); have n2_ := Aside0.mk (below_step bw hb); clear BK287; clear BK289; clear HB; have BK287 := n0_; have BK289 := n1_; have HB := n2_; clear n0_ n1_ n2_; (try clear hb); (try clear hb2); (try clear hk); (try clear hi)))
                  go_ret
                  exact ⟨by first | rfl | (simp [errW_none, errW_some] <;> rfl) | (simp [*, errW_none, errW_some] <;> rfl), by repeat (first | (with_reducible first | exact HB.out | apply below_alloc | apply pw_below_drewN | apply below_drew1 | refine below_set ?_ GE287.out | refine below_set ?_ GE289.out) | exact HB.out)⟩
              · rw [if_neg c8] at H
                exact absurd H (by simp)
            · rw [if_neg c7] at H
              exact absurd H (by simp)
          · rw [if_neg c6] at H
            exact absurd H (by simp)
        · rw [if_neg c5] at H
          have c5b0 : decide (x17_1 < (l0.length : Int)) = false := decide_eq_false c5
          clear c5
          obtain rfl := Option.some.inj H
          go_wp2
          go_ret
          exact ⟨by first | rfl | (simp [errW_none, errW_some] <;> rfl) | (simp [*, errW_none, errW_some] <;> rfl), by repeat (first | (with_reducible first | exact HB.out | apply below_alloc | apply pw_below_drewN | apply below_drew1) | exact HB.out)⟩
  · rw [if_neg c4] at H
    have c4b0 : ((l0.length : Int) == (l1.length : Int)) = false := beq_eq_false_iff_ne.mpr c4
    have c4b1 : ((l0.length : Int) != (l1.length : Int)) = true := bne_iff_ne.mpr c4
    have c4b2 : (l0.length == l1.length) = false := by first | simpa using c4 | (simp at c4 ⊢; omega)
    obtain rfl := Option.some.inj H
    go_enter Try.func118, Try.ntmps118
    go_wp2
    go_ret
    exact ⟨by first | rfl | (simp [errW_none, errW_some] <;> rfl) | (simp [*, errW_none, errW_some] <;> rfl), by repeat (first | (with_reducible first | exact HB.out | apply below_alloc | apply pw_below_drewN | apply below_drew1) | exact HB.out)⟩

end Go.Proofs.Ytlkbdoejeomlmaa.PFnExactSameGrammar
