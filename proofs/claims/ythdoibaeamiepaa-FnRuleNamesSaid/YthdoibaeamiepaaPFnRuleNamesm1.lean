/- Printed walks of the functions of FnRuleNames, in few texts. No condition. -/
import Derived.Test.YthdoibaeamiepaaPFnRuleNamesm0
import Derived.Test.YthdoibaeamiepaaY
namespace Go.Proofs.Ythdoibaeamiepaa.PFnRuleNames
open Go.RowKit Go.Proofs.YthdoibaeamiepaaW.PrintWords Go.Proofs.YthdoibaeamiepaaW.PrintLast Go.Proofs.YthdoibaeamiepaaW.PrintMore
attribute [local go_sem] max2_int min2_int max_two min_two max_three min_three max_four min_four
set_option linter.unusedVariables false
set_option linter.unusedSimpArgs false
mutual
def spec_l10One.j5 : Nat → ByteArray → Int → Int → Option (Int × ByteArray × Int)
 | 0, _, _, _ => none
 | k + 1, x0, x1, x6 => spec_l10One.l4 k x0 x1 x6 (⟨#[40, 41, 123, 125, 124, 42, 43, 63, 58, 44, 59, 61, 64, 45, 47, 60, 38, 33]⟩ : ByteArray) 0
def spec_l10One.l4 : Nat → ByteArray → Int → Int → ByteArray → Int → Option (Int × ByteArray × Int)
 | 0, _, _, _, _, _ => none
 | k + 1, x0, x1, x6, x8, x9 => if x9 < (x8.size : Int) then (if 0 ≤ x9 then (if (bt x8 x9) = x6 then (if 0 ≤ x1 then (if x1 ≤ (wrap64 (x1 + 1)) then (if (wrap64 (x1 + 1)) ≤ (x0.size : Int) then (some (5, x0.extract (x1 : Int).toNat ((wrap64 (x1 + 1)) : Int).toNat, wrap64 (x1 + 1))) else (none)) else (none)) else (none)) else (spec_l10One.l4 k x0 x1 x6 x8 (wrap64 (x9 + 1)))) else (none)) else (some (0, (⟨#[]⟩ : ByteArray), 0))
def spec_l10One.j1 : Nat → ByteArray → Int → Int → Option (Int × ByteArray × Int)
 | 0, _, _, _ => none
 | k + 1, x0, x1, x7 => if (wrap64 (x7 - x1)) > 6 then (some (0, (⟨#[]⟩ : ByteArray), 0)) else (if x7 < (x0.size : Int) then (if 0 ≤ x7 then (if (bt x0 x7) = 40 then (if 0 ≤ x1 then (if x1 ≤ x7 then (if x7 ≤ (x0.size : Int) then (some (6, x0.extract (x1 : Int).toNat (x7 : Int).toNat, wrap64 (x7 + 1))) else (none)) else (none)) else (none)) else (if 0 ≤ x1 then (if x1 ≤ x7 then (if x7 ≤ (x0.size : Int) then (some (1, x0.extract (x1 : Int).toNat (x7 : Int).toNat, x7)) else (none)) else (none)) else (none))) else (none)) else (if 0 ≤ x1 then (if x1 ≤ x7 then (if x7 ≤ (x0.size : Int) then (some (1, x0.extract (x1 : Int).toNat (x7 : Int).toNat, x7)) else (none)) else (none)) else (none)))
def spec_l10One.l0 : Nat → ByteArray → Int → Int → Option (Int × ByteArray × Int)
 | 0, _, _, _ => none
 | k + 1, x0, x1, x7 => if x7 < (x0.size : Int) then (if 0 ≤ x7 then ((spec_l10Letter.f (bt x0 x7)).bind fun t140 => (if t140 = true then (spec_l10One.l0 k x0 x1 (wrap64 (x7 + 1))) else ((spec_l10Figure.f (bt x0 x7)).bind fun t141 => (if t141 = true then (spec_l10One.l0 k x0 x1 (wrap64 (x7 + 1))) else (spec_l10One.j1 k x0 x1 x7))))) else (none)) else (spec_l10One.j1 k x0 x1 x7)
def spec_l10One.l1 : Nat → ByteArray → Int → Int → Option (Int × ByteArray × Int)
 | 0, _, _, _ => none
 | k + 1, x0, x1, x7 => if x7 < (x0.size : Int) then (if 0 ≤ x7 then ((spec_l10Figure.f (bt x0 x7)).bind fun t143 => (if t143 = true then (spec_l10One.l1 k x0 x1 (wrap64 (x7 + 1))) else (if (wrap64 (x7 - x1)) > 2 then (some (0, (⟨#[]⟩ : ByteArray), 0)) else (if 0 ≤ x1 then (if x1 ≤ x7 then (if x7 ≤ (x0.size : Int) then (some (2, x0.extract (x1 : Int).toNat (x7 : Int).toNat, x7)) else (none)) else (none)) else (none))))) else (none)) else (if (wrap64 (x7 - x1)) > 2 then (some (0, (⟨#[]⟩ : ByteArray), 0)) else (if 0 ≤ x1 then (if x1 ≤ x7 then (if x7 ≤ (x0.size : Int) then (some (2, x0.extract (x1 : Int).toNat (x7 : Int).toNat, x7)) else (none)) else (none)) else (none)))
def spec_l10One.l2 : Nat → ByteArray → Int → Int → Option (Int × ByteArray × Int)
 | 0, _, _, _ => none
 | k + 1, x0, x1, x7 => if x7 < (x0.size : Int) then (if 0 ≤ x7 then (if (bt x0 x7) = 34 then (if x7 = (x0.size : Int) then (some (0, (⟨#[]⟩ : ByteArray), 0)) else ((spec_l01In.f (wrap64 ((wrap64 (x7 - x1)) - 1)) 1 8).bind fun t144 => (if t144 = true then (if 0 ≤ (wrap64 (x1 + 1)) then (if (wrap64 (x1 + 1)) ≤ x7 then (if x7 ≤ (x0.size : Int) then (some (3, x0.extract ((wrap64 (x1 + 1)) : Int).toNat (x7 : Int).toNat, wrap64 (x7 + 1))) else (none)) else (none)) else (none)) else (some (0, (⟨#[]⟩ : ByteArray), 0))))) else (if (bt x0 x7) = 10 then (if x7 = (x0.size : Int) then (some (0, (⟨#[]⟩ : ByteArray), 0)) else (some (0, (⟨#[]⟩ : ByteArray), 0))) else (spec_l10One.l2 k x0 x1 (wrap64 (x7 + 1))))) else (none)) else (if x7 = (x0.size : Int) then (some (0, (⟨#[]⟩ : ByteArray), 0)) else (if 0 ≤ x7 then (none) else (none)))
def spec_l10One.l3 : Nat → ByteArray → Int → Int → Option (Int × ByteArray × Int)
 | 0, _, _, _ => none
 | k + 1, x0, x1, x7 => if x7 < (x0.size : Int) then (if 0 ≤ x7 then (if (bt x0 x7) = 93 then (if x7 = (x0.size : Int) then (some (0, (⟨#[]⟩ : ByteArray), 0)) else (if 0 ≤ (wrap64 (x1 + 1)) then (if (wrap64 (x1 + 1)) ≤ x7 then (if x7 ≤ (x0.size : Int) then ((spec_SetOk.f k (x0.extract ((wrap64 (x1 + 1)) : Int).toNat (x7 : Int).toNat)).bind fun t145 => (if t145 = true then (some (4, x0.extract ((wrap64 (x1 + 1)) : Int).toNat (x7 : Int).toNat, wrap64 (x7 + 1))) else (some (0, (⟨#[]⟩ : ByteArray), 0)))) else (none)) else (none)) else (none))) else (spec_l10One.l3 k x0 x1 (wrap64 (x7 + 1)))) else (none)) else (if x7 = (x0.size : Int) then (some (0, (⟨#[]⟩ : ByteArray), 0)) else (if 0 ≤ (wrap64 (x1 + 1)) then (if (wrap64 (x1 + 1)) ≤ x7 then (if x7 ≤ (x0.size : Int) then ((spec_SetOk.f k (x0.extract ((wrap64 (x1 + 1)) : Int).toNat (x7 : Int).toNat)).bind fun t146 => (if t146 = true then (some (4, x0.extract ((wrap64 (x1 + 1)) : Int).toNat (x7 : Int).toNat, wrap64 (x7 + 1))) else (some (0, (⟨#[]⟩ : ByteArray), 0)))) else (none)) else (none)) else (none)))
end
def spec_l10One.f (k : Nat) (a0 : ByteArray) (a1 : Int) : Option (Int × ByteArray × Int) := if 0 ≤ a1 then (if a1 < (a0.size : Int) then ((spec_l10Letter.f (bt a0 a1)).bind fun t139 => (if t139 = true then (spec_l10One.l0 k a0 a1 (wrap64 (a1 + 1))) else ((spec_l10Figure.f (bt a0 a1)).bind fun t142 => (if t142 = true then (spec_l10One.l1 k a0 a1 (wrap64 (a1 + 1))) else (if (bt a0 a1) = 34 then (spec_l10One.l2 k a0 a1 (wrap64 (a1 + 1))) else (if (bt a0 a1) = 91 then (spec_l10One.l3 k a0 a1 (wrap64 (a1 + 1))) else (if (bt a0 a1) = 45 then (if (wrap64 (a1 + 1)) < (a0.size : Int) then (if 0 ≤ (wrap64 (a1 + 1)) then (if (bt a0 (wrap64 (a1 + 1))) = 62 then (some (5, (⟨#[45, 62]⟩ : ByteArray), wrap64 (a1 + 2))) else (spec_l10One.j5 k a0 a1 (bt a0 a1))) else (none)) else (spec_l10One.j5 k a0 a1 (bt a0 a1))) else (spec_l10One.j5 k a0 a1 (bt a0 a1))))))))) else (none)) else (none)
theorem spec_l10One.mono_l : ∀ k, (∀ y0 y1 y2, LeO (spec_l10One.j5 k y0 y1 y2) (spec_l10One.j5 (k + 1) y0 y1 y2)) ∧ (∀ y0 y1 y2 y3 y4, LeO (spec_l10One.l4 k y0 y1 y2 y3 y4) (spec_l10One.l4 (k + 1) y0 y1 y2 y3 y4)) ∧ (∀ y0 y1 y2, LeO (spec_l10One.j1 k y0 y1 y2) (spec_l10One.j1 (k + 1) y0 y1 y2)) ∧ (∀ y0 y1 y2, LeO (spec_l10One.l0 k y0 y1 y2) (spec_l10One.l0 (k + 1) y0 y1 y2)) ∧ (∀ y0 y1 y2, LeO (spec_l10One.l1 k y0 y1 y2) (spec_l10One.l1 (k + 1) y0 y1 y2)) ∧ (∀ y0 y1 y2, LeO (spec_l10One.l2 k y0 y1 y2) (spec_l10One.l2 (k + 1) y0 y1 y2)) ∧ (∀ y0 y1 y2, LeO (spec_l10One.l3 k y0 y1 y2) (spec_l10One.l3 (k + 1) y0 y1 y2))
 | 0 => ⟨fun _ _ _ r h => by simp [spec_l10One.j5] at h, fun _ _ _ _ _ r h => by simp [spec_l10One.l4] at h, fun _ _ _ r h => by simp [spec_l10One.j1] at h, fun _ _ _ r h => by simp [spec_l10One.l0] at h, fun _ _ _ r h => by simp [spec_l10One.l1] at h, fun _ _ _ r h => by simp [spec_l10One.l2] at h, fun _ _ _ r h => by simp [spec_l10One.l3] at h⟩
 | k + 1 => by
  obtain ⟨ih0, ih1, ih2, ih3, ih4, ih5, ih6⟩ := spec_l10One.mono_l k; refine ⟨?_, ?_, ?_, ?_, ?_, ?_, ?_⟩
  ·intro y0 y1 y2; unfold spec_l10One.j5; repeat' (with_reducible exact ih1 _ _ _ _ _)
  ·intro y0 y1 y2 y3 y4; unfold spec_l10One.l4; repeat' with_reducible first | exact ih1 _ _ _ _ _ | exact LeO.refl _ | refine LeO.ite ?_ ?_
  ·intro y0 y1 y2; unfold spec_l10One.j1; repeat' (with_reducible exact LeO.refl _)
  ·intro y0 y1 y2; unfold spec_l10One.l0; repeat' with_reducible first | exact ih2 _ _ _ | exact ih3 _ _ _ | exact LeO.refl _ | refine LeO.ite ?_ ?_ | refine LeO.bind ?_ (fun _ => ?_)
  ·intro y0 y1 y2; unfold spec_l10One.l1; repeat' with_reducible first | exact ih4 _ _ _ | exact LeO.refl _ | refine LeO.ite ?_ ?_ | refine LeO.bind ?_ (fun _ => ?_)
  ·intro y0 y1 y2; unfold spec_l10One.l2; repeat' with_reducible first | exact ih5 _ _ _ | exact LeO.refl _ | refine LeO.ite ?_ ?_
  ·intro y0 y1 y2; unfold spec_l10One.l3; repeat' with_reducible first | exact ih6 _ _ _ | exact spec_SetOk.mono _ _ | exact LeO.refl _ | refine LeO.ite ?_ ?_ | refine LeO.bind ?_ (fun _ => ?_)
theorem spec_l10One.mono : ∀ a0 a1 k, LeO (spec_l10One.f k a0 a1) (spec_l10One.f (k + 1) a0 a1) := by
 intro a0 a1 k; obtain ⟨ih0, ih1, ih2, ih3, ih4, ih5, ih6⟩ := spec_l10One.mono_l k; unfold spec_l10One.f; repeat' with_reducible first | exact ih0 _ _ _ | exact ih3 _ _ _ | exact ih4 _ _ _ | exact ih5 _ _ _ | exact ih6 _ _ _ | exact LeO.refl _ | refine LeO.ite ?_ ?_ | refine LeO.bind ?_ (fun _ => ?_)
set_option maxHeartbeats 8000000 in
set_option maxRecDepth 100000 in
theorem spec_l10One.calls (k : Nat) (a0 : ByteArray) (a1 : Int) (r1 : Int) (r2 : ByteArray) (r3 : Int) (w : World) (h : spec_l10One.f k a0 a1 = some (r1, r2, r3)) :
  Calls Try.prog 45 #[.string a0, .int .i64 a1] w fun e w' => e = .returned (.tuple #[.agg #[.int .i64 r1, .string r2], .int .i64 r3]) ∧ Below w.heap.size w w' := by
 have hu84 := Try.underlying84; have HB := am (Below.refl w.heap.size w); have H := h; unfold spec_l10One.f at H; clear h; by_cases c3 : 0 ≤ a1
 ·rw [if_pos c3] at H; have c3b0 : decide (0 ≤ a1) = true := decide_eq_true c3; clear c3; rcases cn H, H with ⟨⟨c4b0, H⟩, -⟩; have HC6 := am H; clear H; go_enter Try.func45, Try.ntmps45; go_upto_block 0 with (((with_reducible refine gd 4 ?_); refine bo_ #[.int .i64 0, .string (⟨#[]⟩ : ByteArray)] 84 (w := w) ?_; clear HB; intro gb138 hg w7 hb BK138 GE138 HB; clear hb hg; obtain ⟨p5, q5, hx5⟩ := bt_w a0 a1 oa oa))
  (try simp only [ap]); go_cut [] (fun wc => ∃ (kq : Nat) (x139000_5 : Int) (x139001_5 : ByteArray), Aside0 (spec_l10One.j5 kq a0 a1 (bt a0 a1) = some (r1, r2, r3)) ∧ Aside0 (kq ≤ k) ∧ Aside0 (wc.heap[gb138]? = some (.cells #[.int .i64 x139000_5, .string x139001_5] 84 (0, 0))) ∧ Aside0 (Below w.heap.size w wc))
  case first =>
   have H := HC6.out; clear HC6; rcases ob H, H with ⟨⟨t139, A8, H⟩, -⟩; rcases cb H, H with ⟨⟨rfl, H⟩ | ⟨rfl, H⟩, -⟩
   ·have HC10 := am H; clear H; go_upto_block 1 with (((with_reducible refine gc 58 ?_); refine gl_ 17 Try.func58 #[.int .u8 (bt a0 a1)] ?_; (with_reducible refine (spec_l10Letter.calls (bt a0 a1) true _ A8.out).mono ?_); rintro e w' ⟨rfl, ⟨nd, rfl⟩⟩; refine ⟨_, rfl, ?_⟩))
    (try simp only [ap]); go_cut [7] (fun v7 wc => ∃ (kq : Nat) (x7_9 : Int), v7 = .int .i64 x7_9 ∧ Aside0 (spec_l10One.j1 kq a0 a1 x7_9 = some (r1, r2, r3)) ∧ Aside0 (kq ≤ k) ∧ Aside0 (wc.heap[gb138]? = some (.cells #[.int .i64 0, .string (⟨#[]⟩ : ByteArray)] 84 (0, 0))) ∧ Aside0 (Below w.heap.size w wc))
    case first =>
     have H := HC10.out; clear HC10; have H' := am H; clear H; go_wp2; go_loopg [7] k (fun kq v7 w' => ∃ (x7_1 : Int), v7 = .int .i64 x7_1 ∧ Aside0 (spec_l10One.l0 kq a0 a1 x7_1 = some (r1, r2, r3)) ∧ Aside0 (kq ≤ k) ∧ Aside0 (w'.heap[gb138]? = some (.cells #[.int .i64 0, .string (⟨#[]⟩ : ByteArray)] 84 (0, 0))) ∧ Aside0 (Below w.heap.size w w'))
     case atStart => exact ⟨(wrap64 (a1 + 1)), (by rfl), H', ⟨Nat.le_refl _⟩, ⟨bx⟩, ⟨bw⟩⟩
     case round =>
      clear H'; try clear c3b0
      try clear c4b0
      try clear p5
      try clear q5
      try clear hx5
      obtain ⟨x7_1, rfl, HA, HK1, BK138, HB⟩ := hrel
      cases gk with
      | zero => exact absurd HA.out (by simp [spec_l10One.l0])
      | succ k1 =>
       have H := HA.out; clear HA; simp only [spec_l10One.l0] at H; rcases cd H, H with ⟨⟨c11b0, H⟩ | ⟨c11b0, H⟩, -⟩
       ·(skip); rcases cn H, H with ⟨⟨c12b0, H⟩, -⟩; rcases ob H, H with ⟨⟨t140, A14, H⟩, -⟩; rcases cb H, H with ⟨⟨rfl, H⟩ | ⟨rfl, H⟩, -⟩
        ·have H' := am H; clear H; obtain ⟨p13, q13, hx13⟩ := bt_w a0 x7_1 oa oa; go_wp2_with ((go_at_call 58; (with_reducible refine (spec_l10Letter.calls (bt a0 x7_1) true _ A14.out).mono ?_); rintro e w' ⟨rfl, ⟨nd, rfl⟩⟩)); go_roundg k1
         case measure => have := HK1.out; omega
         case rel => exact ⟨(wrap64 (x7_1 + 1)), (by rfl), H', ⟨by have := HK1.out; omega⟩, ⟨bx⟩, ⟨bw⟩⟩
        ·rcases ob H, H with ⟨⟨t141, A17, H⟩, -⟩; rcases cb H, H with ⟨⟨rfl, H⟩ | ⟨rfl, H⟩, -⟩
         ·have H' := am H; clear H; obtain ⟨p13, q13, hx13⟩ := bt_w a0 x7_1 oa oa; go_wp2_with (first | (go_at_call 58; (with_reducible refine (spec_l10Letter.calls (bt a0 x7_1) false _ A14.out).mono ?_); rintro e w' ⟨rfl, ⟨nd, rfl⟩⟩; obtain ⟨p16, q16, hx16⟩ := bt_w a0 x7_1 oa oa) | (go_at_call 54; (with_reducible refine (spec_l10Figure.calls (bt a0 x7_1) true _ A17.out).mono ?_); rintro e w' ⟨rfl, ⟨nd, rfl⟩⟩)); go_roundg k1
          case measure => have := HK1.out; omega
          case rel => exact ⟨(wrap64 (x7_1 + 1)), (by rfl), H', ⟨by have := HK1.out; omega⟩, ⟨bx⟩, ⟨bw⟩⟩
         ·have H' := am H; clear H; obtain ⟨p13, q13, hx13⟩ := bt_w a0 x7_1 oa oa; go_wp2_with (first | (go_at_call 58; (with_reducible refine (spec_l10Letter.calls (bt a0 x7_1) false _ A14.out).mono ?_); rintro e w' ⟨rfl, ⟨nd, rfl⟩⟩; obtain ⟨p16, q16, hx16⟩ := bt_w a0 x7_1 oa oa) | (go_at_call 54; (with_reducible refine (spec_l10Figure.calls (bt a0 x7_1) false _ A17.out).mono ?_); rintro e w' ⟨rfl, ⟨nd, rfl⟩⟩)); go_meet
          case rel => exact ⟨_, (x7_1), (by rfl), H', ⟨by have := HK1.out; omega⟩, ⟨bx⟩, ⟨bw⟩⟩
       ·(skip); have H' := am H; clear H; go_wp2; go_meet
        case rel => exact ⟨_, (x7_1), (by rfl), H', ⟨by have := HK1.out; omega⟩, BK138, HB⟩
    case rest =>
     clear HC10; try clear c3b0
     try clear c4b0
     try clear p5
     try clear q5
     try clear hx5
     obtain ⟨kq, x7_9, rfl, HA, HJ9, BK138, HB⟩ := hcut
     cases kq with
     | zero => exact absurd HA.out (by simp [spec_l10One.j1])
     | succ kj9 =>
      have H := HA.out; clear HA; simp only [spec_l10One.j1] at H; rcases cg H, H with ⟨⟨c19b0, H⟩ | ⟨c19b0, H⟩, -⟩
      ·simp only [Option.some.injEq, Prod.mk.injEq] at H; obtain ⟨rfl, rfl, rfl⟩ := H; have z20 := bc2 BK138.out; go_wp2; refine bodyPost_ret (results_ct rfl _ _ gb138 84 #[.int .i64 0, .string (⟨#[]⟩ : ByteArray)] (0, 0) _ rfl bx Try.underlying84 rfl (by kernel_rfl)) rfl ?_; exact ⟨by rfl, bw⟩
      ·rcases cd H, H with ⟨⟨c21b0, H⟩ | ⟨c21b0, H⟩, -⟩
       ·rcases cn H, H with ⟨⟨c22b0, H⟩, -⟩; rcases ce H, H with ⟨⟨-, c24b0, c24b1, H⟩ | ⟨c24, c24b0, c24b1, H⟩, -⟩
        ·rcases cm H, H with ⟨⟨c25, H⟩, -⟩; have c25b0 := eq_true c25; have c25b1 : decide (0 ≤ a1) = true := decide_eq_true c25; clear c25; rcases cm H, H with ⟨⟨c26, H⟩, -⟩; have c26b0 := eq_true c26; have c26b1 : decide (a1 ≤ x7_9) = true := decide_eq_true c26; clear c26; rcases cm H, H with ⟨⟨c27, H⟩, -⟩; have c27b0 := eq_true c27; have c27b1 : decide (x7_9 ≤ (a0.size : Int)) = true := decide_eq_true c27; clear c27; simp only [Option.some.injEq, Prod.mk.injEq] at H; obtain ⟨rfl, rfl, rfl⟩ := H; obtain ⟨p23, q23, hx23⟩ := bt_w a0 x7_9 oa oa; have z28 := bc2 BK138.out; go_wp2; refine bodyPost_ret (results_ct rfl _ _ gb138 84 #[.int .i64 6, .string (a0.extract (a1 : Int).toNat (x7_9 : Int).toNat)] (0, 0) _ rfl bx Try.underlying84 rfl (by kernel_rfl)) rfl ?_; exact ⟨by rfl, bw⟩
        ·rcases cm H, H with ⟨⟨c29, H⟩, -⟩; have c29b0 := eq_true c29; have c29b1 : decide (0 ≤ a1) = true := decide_eq_true c29; clear c29; rcases cm H, H with ⟨⟨c30, H⟩, -⟩; have c30b0 := eq_true c30; have c30b1 : decide (a1 ≤ x7_9) = true := decide_eq_true c30; clear c30; rcases cm H, H with ⟨⟨c31, H⟩, -⟩; have c31b0 := eq_true c31; have c31b1 : decide (x7_9 ≤ (a0.size : Int)) = true := decide_eq_true c31; clear c31; simp only [Option.some.injEq, Prod.mk.injEq] at H; obtain ⟨rfl, rfl, rfl⟩ := H; obtain ⟨p23, q23, hx23⟩ := bt_w a0 x7_9 oa oa; have z32 := bc2 BK138.out; go_wp2; refine bodyPost_ret (results_ct rfl _ _ gb138 84 #[.int .i64 1, .string (a0.extract (a1 : Int).toNat (x7_9 : Int).toNat)] (0, 0) _ rfl bx Try.underlying84 rfl (by kernel_rfl)) rfl ?_; exact ⟨by rfl, bw⟩
       ·rcases cm H, H with ⟨⟨c33, H⟩, -⟩; have c33b0 := eq_true c33; have c33b1 : decide (0 ≤ a1) = true := decide_eq_true c33; clear c33; rcases cm H, H with ⟨⟨c34, H⟩, -⟩; have c34b0 := eq_true c34; have c34b1 : decide (a1 ≤ x7_9) = true := decide_eq_true c34; clear c34; rcases cm H, H with ⟨⟨c35, H⟩, -⟩; have c35b0 := eq_true c35; have c35b1 : decide (x7_9 ≤ (a0.size : Int)) = true := decide_eq_true c35; clear c35; simp only [Option.some.injEq, Prod.mk.injEq] at H; obtain ⟨rfl, rfl, rfl⟩ := H; have z36 := bc2 BK138.out; go_wp2; refine bodyPost_ret (results_ct rfl _ _ gb138 84 #[.int .i64 1, .string (a0.extract (a1 : Int).toNat (x7_9 : Int).toNat)] (0, 0) _ rfl bx Try.underlying84 rfl (by kernel_rfl)) rfl ?_; exact ⟨by rfl, bw⟩
   ·rcases ob H, H with ⟨⟨t142, A37, H⟩, -⟩; rcases cb H, H with ⟨⟨rfl, H⟩ | ⟨rfl, H⟩, -⟩
    ·have H' := am H; clear H; go_wp2_with (first | ((with_reducible refine gc 58 ?_); refine gl_ 17 Try.func58 #[.int .u8 (bt a0 a1)] ?_; (with_reducible refine (spec_l10Letter.calls (bt a0 a1) false _ A8.out).mono ?_); rintro e w' ⟨rfl, ⟨nd, rfl⟩⟩; refine ⟨_, rfl, ?_⟩) | ((with_reducible refine gc 54 ?_); refine gl_ 66 Try.func54 #[.int .u8 (bt a0 a1)] ?_; (with_reducible refine (spec_l10Figure.calls (bt a0 a1) true _ A37.out).mono ?_); rintro e w' ⟨rfl, ⟨nd, rfl⟩⟩; refine ⟨_, rfl, ?_⟩)); go_loopg [7] k (fun kq v7 w' => ∃ (x7_1 : Int), v7 = .int .i64 x7_1 ∧ Aside0 (spec_l10One.l1 kq a0 a1 x7_1 = some (r1, r2, r3)) ∧ Aside0 (kq ≤ k) ∧ Aside0 (w'.heap[gb138]? = some (.cells #[.int .i64 0, .string (⟨#[]⟩ : ByteArray)] 84 (0, 0))) ∧ Aside0 (Below w.heap.size w w'))
     case atStart => exact ⟨(wrap64 (a1 + 1)), (by rfl), H', ⟨Nat.le_refl _⟩, ⟨bx⟩, ⟨bw⟩⟩
     case round =>
      clear H'; try clear c3b0
      try clear c4b0
      try clear p5
      try clear q5
      try clear hx5
      obtain ⟨x7_1, rfl, HA, HK1, BK138, HB⟩ := hrel
      cases gk with
      | zero => exact absurd HA.out (by simp [spec_l10One.l1])
      | succ k1 =>
       have H := HA.out; clear HA; simp only [spec_l10One.l1] at H; rcases cd H, H with ⟨⟨c39b0, H⟩ | ⟨c39b0, H⟩, -⟩
       ·rcases cn H, H with ⟨⟨c40b0, H⟩, -⟩; rcases ob H, H with ⟨⟨t143, A42, H⟩, -⟩; rcases cb H, H with ⟨⟨rfl, H⟩ | ⟨rfl, H⟩, -⟩
        ·have H' := am H; clear H; obtain ⟨p41, q41, hx41⟩ := bt_w a0 x7_1 oa oa; go_wp2_with ((go_at_call 54; (with_reducible refine (spec_l10Figure.calls (bt a0 x7_1) true _ A42.out).mono ?_); rintro e w' ⟨rfl, ⟨nd, rfl⟩⟩)); go_roundg k1
         case measure => have := HK1.out; omega
         case rel => exact ⟨(wrap64 (x7_1 + 1)), (by rfl), H', ⟨by have := HK1.out; omega⟩, ⟨bx⟩, ⟨bw⟩⟩
        ·rcases cg H, H with ⟨⟨c44b0, H⟩ | ⟨c44b0, H⟩, -⟩
         ·simp only [Option.some.injEq, Prod.mk.injEq] at H; obtain ⟨rfl, rfl, rfl⟩ := H; obtain ⟨p41, q41, hx41⟩ := bt_w a0 x7_1 oa oa; go_wp2_with ((go_at_call 54; (with_reducible refine (spec_l10Figure.calls (bt a0 x7_1) false _ A42.out).mono ?_); rintro e w' ⟨rfl, ⟨nd, rfl⟩⟩; (try (rw [drewN_self wr]; generalize hq_ : World.drewN wr _ = wr; have n0_ : Aside0 (wr.heap[gb138]? = some (.cells #[.int .i64 0, .string (⟨#[]⟩ : ByteArray)] 84 (0, 0))) := ⟨by rw [← hq_]; exact bx⟩; have n1_ : Aside0 (Below w.heap.size w wr) := ⟨by rw [← hq_]; exact bw⟩; clear BK138 HB hq_; have BK138 := n0_; have HB := n1_; clear n0_ n1_)); have z45 := bc2 BK138.out)); refine bodyPost_ret (results_ct rfl _ _ gb138 84 #[.int .i64 0, .string (⟨#[]⟩ : ByteArray)] (0, 0) _ rfl bx Try.underlying84 rfl (by kernel_rfl)) rfl ?_; exact ⟨by rfl, bw⟩
         ·rcases cm H, H with ⟨⟨c46, H⟩, -⟩; have c46b0 := eq_true c46; have c46b1 : decide (0 ≤ a1) = true := decide_eq_true c46; clear c46; rcases cm H, H with ⟨⟨c47, H⟩, -⟩; have c47b0 := eq_true c47; have c47b1 : decide (a1 ≤ x7_1) = true := decide_eq_true c47; clear c47; rcases cm H, H with ⟨⟨c48, H⟩, -⟩; have c48b0 := eq_true c48; have c48b1 : decide (x7_1 ≤ (a0.size : Int)) = true := decide_eq_true c48; clear c48; simp only [Option.some.injEq, Prod.mk.injEq] at H; obtain ⟨rfl, rfl, rfl⟩ := H; obtain ⟨p41, q41, hx41⟩ := bt_w a0 x7_1 oa oa; go_wp2_with ((go_at_call 54; (with_reducible refine (spec_l10Figure.calls (bt a0 x7_1) false _ A42.out).mono ?_); rintro e w' ⟨rfl, ⟨nd, rfl⟩⟩; (try (rw [drewN_self wr]; generalize hq_ : World.drewN wr _ = wr; have n0_ : Aside0 (wr.heap[gb138]? = some (.cells #[.int .i64 0, .string (⟨#[]⟩ : ByteArray)] 84 (0, 0))) := ⟨by rw [← hq_]; exact bx⟩; have n1_ : Aside0 (Below w.heap.size w wr) := ⟨by rw [← hq_]; exact bw⟩; clear BK138 HB hq_; have BK138 := n0_; have HB := n1_; clear n0_ n1_)); have z49 := bc2 BK138.out)); refine bodyPost_ret (results_ct rfl _ _ gb138 84 #[.int .i64 2, .string (a0.extract (a1 : Int).toNat (x7_1 : Int).toNat)] (0, 0) _ rfl bx Try.underlying84 rfl (by kernel_rfl)) rfl ?_; exact ⟨by rfl, bw⟩
       ·rcases cg H, H with ⟨⟨c50b0, H⟩ | ⟨c50b0, H⟩, -⟩
        ·simp only [Option.some.injEq, Prod.mk.injEq] at H; obtain ⟨rfl, rfl, rfl⟩ := H; have z51 := bc2 BK138.out; go_wp2; refine bodyPost_ret (results_ct rfl _ _ gb138 84 #[.int .i64 0, .string (⟨#[]⟩ : ByteArray)] (0, 0) _ rfl bx Try.underlying84 rfl (by kernel_rfl)) rfl ?_; exact ⟨by rfl, bw⟩
        ·rcases cm H, H with ⟨⟨c52, H⟩, -⟩; have c52b0 := eq_true c52; have c52b1 : decide (0 ≤ a1) = true := decide_eq_true c52; clear c52; rcases cm H, H with ⟨⟨c53, H⟩, -⟩; have c53b0 := eq_true c53; have c53b1 : decide (a1 ≤ x7_1) = true := decide_eq_true c53; clear c53; rcases cm H, H with ⟨⟨c54, H⟩, -⟩; have c54b0 := eq_true c54; have c54b1 : decide (x7_1 ≤ (a0.size : Int)) = true := decide_eq_true c54; clear c54; simp only [Option.some.injEq, Prod.mk.injEq] at H; obtain ⟨rfl, rfl, rfl⟩ := H; have z55 := bc2 BK138.out; go_wp2; refine bodyPost_ret (results_ct rfl _ _ gb138 84 #[.int .i64 2, .string (a0.extract (a1 : Int).toNat (x7_1 : Int).toNat)] (0, 0) _ rfl bx Try.underlying84 rfl (by kernel_rfl)) rfl ?_; exact ⟨by rfl, bw⟩
    ·rcases ce H, H with ⟨⟨-, c56b0, c56b1, H⟩ | ⟨c56, c56b0, c56b1, H⟩, -⟩
     ·have H' := am H; clear H; go_wp2_with (first | ((with_reducible refine gc 58 ?_); refine gl_ 17 Try.func58 #[.int .u8 (bt a0 a1)] ?_; (with_reducible refine (spec_l10Letter.calls (bt a0 a1) false _ A8.out).mono ?_); rintro e w' ⟨rfl, ⟨nd, rfl⟩⟩; refine ⟨_, rfl, ?_⟩) | ((with_reducible refine gc 54 ?_); refine gl_ 66 Try.func54 #[.int .u8 (bt a0 a1)] ?_; (with_reducible refine (spec_l10Figure.calls (bt a0 a1) false _ A37.out).mono ?_); rintro e w' ⟨rfl, ⟨nd, rfl⟩⟩; refine ⟨_, rfl, ?_⟩)); go_loopg [7] k (fun kq v7 w' => ∃ (x7_1 : Int), v7 = .int .i64 x7_1 ∧ Aside0 (spec_l10One.l2 kq a0 a1 x7_1 = some (r1, r2, r3)) ∧ Aside0 (kq ≤ k) ∧ Aside0 (w'.heap[gb138]? = some (.cells #[.int .i64 0, .string (⟨#[]⟩ : ByteArray)] 84 (0, 0))) ∧ Aside0 (Below w.heap.size w w'))
      case atStart => exact ⟨(wrap64 (a1 + 1)), (by rfl), H', ⟨Nat.le_refl _⟩, ⟨bx⟩, ⟨bw⟩⟩
      case round =>
       clear H'; try clear c3b0
       try clear c4b0
       try clear p5
       try clear q5
       try clear hx5
       try clear c56b0
       try clear c56b1
       obtain ⟨x7_1, rfl, HA, HK1, BK138, HB⟩ := hrel
       cases gk with
       | zero => exact absurd HA.out (by simp [spec_l10One.l2])
       | succ k1 =>
        have H := HA.out; clear HA; simp only [spec_l10One.l2] at H; rcases cd H, H with ⟨⟨c57b0, H⟩ | ⟨c57b0, H⟩, -⟩
        ·rcases cn H, H with ⟨⟨c58b0, H⟩, -⟩; rcases ce H, H with ⟨⟨-, c60b0, c60b1, H⟩ | ⟨c60, c60b0, c60b1, H⟩, -⟩
         ·rcases ce H, H with ⟨⟨-, c61b0, c61b1, H⟩ | ⟨c61, c61b0, c61b1, H⟩, -⟩
          ·simp only [Option.some.injEq, Prod.mk.injEq] at H; obtain ⟨rfl, rfl, rfl⟩ := H; obtain ⟨p59, q59, hx59⟩ := bt_w a0 x7_1 oa oa; have z62 := bc2 BK138.out; go_wp2; refine bodyPost_ret (results_ct rfl _ _ gb138 84 #[.int .i64 0, .string (⟨#[]⟩ : ByteArray)] (0, 0) _ rfl bx Try.underlying84 rfl (by kernel_rfl)) rfl ?_; exact ⟨by rfl, bw⟩
          ·rcases ob H, H with ⟨⟨t144, A64, H⟩, -⟩; rcases cb H, H with ⟨⟨rfl, H⟩ | ⟨rfl, H⟩, -⟩
           ·obtain ⟨ji66, hji66⟩ : ∃ j_ : Int, (wrap64 (a1 + 1)) = j_ := ⟨_, rfl⟩; replace H : (if 0 ≤ (ji66) then (if (ji66) ≤ x7_1 then (if x7_1 ≤ (a0.size : Int) then (some (3, a0.extract ((ji66) : Int).toNat (x7_1 : Int).toNat, wrap64 (x7_1 + 1))) else (none)) else (none)) else (none)) = some (r1, r2, r3) := by (rw [hji66] at H; exact H)
            (try rw [hji66] at A64); have hji66w : (IntKind.i64.wrap (a1 + 1)) = ji66 := (i64_w _).trans hji66; rcases cm H, H with ⟨⟨c67, H⟩, -⟩; have c67b0 := eq_true c67; have c67b1 : decide (0 ≤ (ji66)) = true := decide_eq_true c67; clear c67; rcases cm H, H with ⟨⟨c68, H⟩, -⟩; have c68b0 := eq_true c68; have c68b1 : decide ((ji66) ≤ x7_1) = true := decide_eq_true c68; clear c68; rcases cm H, H with ⟨⟨c69, H⟩, -⟩; have c69b0 := eq_true c69; have c69b1 : decide (x7_1 ≤ (a0.size : Int)) = true := decide_eq_true c69; clear c69; simp only [Option.some.injEq, Prod.mk.injEq] at H; obtain ⟨rfl, rfl, rfl⟩ := H; obtain ⟨p59, q59, hx59⟩ := bt_w a0 x7_1 oa oa; obtain ⟨p63, q63, hx63⟩ := bt_w a0 x7_1 oa oa; go_wp2_with ((go_at_call 21; (with_reducible refine (spec_l01In.calls (wrap64 ((wrap64 (x7_1 - a1)) - 1)) 1 8 true _ A64.out).mono ?_); rintro e w' ⟨rfl, ⟨nd, rfl⟩⟩; (try (rw [drewN_self wr]; generalize hq_ : World.drewN wr _ = wr; have n0_ : Aside0 (wr.heap[gb138]? = some (.cells #[.int .i64 0, .string (⟨#[]⟩ : ByteArray)] 84 (0, 0))) := ⟨by rw [← hq_]; exact bx⟩; have n1_ : Aside0 (Below w.heap.size w wr) := ⟨by rw [← hq_]; exact bw⟩; clear BK138 HB hq_; have BK138 := n0_; have HB := n1_; clear n0_ n1_)); have z70 := bc2 BK138.out)); refine bodyPost_ret (results_ct rfl _ _ gb138 84 #[.int .i64 3, .string (a0.extract ((ji66) : Int).toNat (x7_1 : Int).toNat)] (0, 0) _ rfl bx Try.underlying84 rfl (by kernel_rfl)) rfl ?_; exact ⟨by rfl, bw⟩
           ·simp only [Option.some.injEq, Prod.mk.injEq] at H; obtain ⟨rfl, rfl, rfl⟩ := H; obtain ⟨p59, q59, hx59⟩ := bt_w a0 x7_1 oa oa; obtain ⟨p63, q63, hx63⟩ := bt_w a0 x7_1 oa oa; go_wp2_with ((go_at_call 21; (with_reducible refine (spec_l01In.calls (wrap64 ((wrap64 (x7_1 - a1)) - 1)) 1 8 false _ A64.out).mono ?_); rintro e w' ⟨rfl, ⟨nd, rfl⟩⟩; (try (rw [drewN_self wr]; generalize hq_ : World.drewN wr _ = wr; have n0_ : Aside0 (wr.heap[gb138]? = some (.cells #[.int .i64 0, .string (⟨#[]⟩ : ByteArray)] 84 (0, 0))) := ⟨by rw [← hq_]; exact bx⟩; have n1_ : Aside0 (Below w.heap.size w wr) := ⟨by rw [← hq_]; exact bw⟩; clear BK138 HB hq_; have BK138 := n0_; have HB := n1_; clear n0_ n1_)); have z71 := bc2 BK138.out)); refine bodyPost_ret (results_ct rfl _ _ gb138 84 #[.int .i64 0, .string (⟨#[]⟩ : ByteArray)] (0, 0) _ rfl bx Try.underlying84 rfl (by kernel_rfl)) rfl ?_; exact ⟨by rfl, bw⟩
         ·rcases ce H, H with ⟨⟨-, c73b0, c73b1, H⟩ | ⟨c73, c73b0, c73b1, H⟩, -⟩
          ·rcases ce H, H with ⟨⟨-, c74b0, c74b1, H⟩ | ⟨c74, c74b0, c74b1, H⟩, -⟩
           ·simp only [Option.some.injEq, Prod.mk.injEq] at H; obtain ⟨rfl, rfl, rfl⟩ := H; obtain ⟨p59, q59, hx59⟩ := bt_w a0 x7_1 oa oa; obtain ⟨p72, q72, hx72⟩ := bt_w a0 x7_1 oa oa; have z75 := bc2 BK138.out; go_wp2; refine bodyPost_ret (results_ct rfl _ _ gb138 84 #[.int .i64 0, .string (⟨#[]⟩ : ByteArray)] (0, 0) _ rfl bx Try.underlying84 rfl (by kernel_rfl)) rfl ?_; exact ⟨by rfl, bw⟩
           ·simp only [Option.some.injEq, Prod.mk.injEq] at H; obtain ⟨rfl, rfl, rfl⟩ := H; obtain ⟨p59, q59, hx59⟩ := bt_w a0 x7_1 oa oa; obtain ⟨p72, q72, hx72⟩ := bt_w a0 x7_1 oa oa; obtain ⟨p76, q76, hx76⟩ := bt_w a0 x7_1 oa oa; have z77 := bc2 BK138.out; go_wp2; refine bodyPost_ret (results_ct rfl _ _ gb138 84 #[.int .i64 0, .string (⟨#[]⟩ : ByteArray)] (0, 0) _ rfl bx Try.underlying84 rfl (by kernel_rfl)) rfl ?_; exact ⟨by rfl, bw⟩
          ·have H' := am H; clear H; obtain ⟨p59, q59, hx59⟩ := bt_w a0 x7_1 oa oa; obtain ⟨p72, q72, hx72⟩ := bt_w a0 x7_1 oa oa; go_wp2; go_roundg k1
           case measure => have := HK1.out; omega
           case rel => exact ⟨(wrap64 (x7_1 + 1)), (by rfl), H', ⟨by have := HK1.out; omega⟩, BK138, HB⟩
        ·rcases ce H, H with ⟨⟨-, c78b0, c78b1, H⟩ | ⟨c78, c78b0, c78b1, H⟩, -⟩
         ·simp only [Option.some.injEq, Prod.mk.injEq] at H; obtain ⟨rfl, rfl, rfl⟩ := H; have z79 := bc2 BK138.out; go_wp2; refine bodyPost_ret (results_ct rfl _ _ gb138 84 #[.int .i64 0, .string (⟨#[]⟩ : ByteArray)] (0, 0) _ rfl bx Try.underlying84 rfl (by kernel_rfl)) rfl ?_; exact ⟨by rfl, bw⟩
         ·rcases cm H, H with ⟨⟨c80, H⟩, -⟩; exact absurd H (by simp)
     ·rcases ce H, H with ⟨⟨-, c81b0, c81b1, H⟩ | ⟨c81, c81b0, c81b1, H⟩, -⟩
      ·have H' := am H; clear H; go_wp2_with (first | ((with_reducible refine gc 58 ?_); refine gl_ 17 Try.func58 #[.int .u8 (bt a0 a1)] ?_; (with_reducible refine (spec_l10Letter.calls (bt a0 a1) false _ A8.out).mono ?_); rintro e w' ⟨rfl, ⟨nd, rfl⟩⟩; refine ⟨_, rfl, ?_⟩) | ((with_reducible refine gc 54 ?_); refine gl_ 66 Try.func54 #[.int .u8 (bt a0 a1)] ?_; (with_reducible refine (spec_l10Figure.calls (bt a0 a1) false _ A37.out).mono ?_); rintro e w' ⟨rfl, ⟨nd, rfl⟩⟩; refine ⟨_, rfl, ?_⟩)); go_loopg [7] k (fun kq v7 w' => ∃ (x7_1 : Int), v7 = .int .i64 x7_1 ∧ Aside0 (spec_l10One.l3 kq a0 a1 x7_1 = some (r1, r2, r3)) ∧ Aside0 (kq ≤ k) ∧ Aside0 (w'.heap[gb138]? = some (.cells #[.int .i64 0, .string (⟨#[]⟩ : ByteArray)] 84 (0, 0))) ∧ Aside0 (Below w.heap.size w w'))
       case atStart => exact ⟨(wrap64 (a1 + 1)), (by rfl), H', ⟨Nat.le_refl _⟩, ⟨bx⟩, ⟨bw⟩⟩
       case round =>
        clear H'; try clear c3b0
        try clear c4b0
        try clear p5
        try clear q5
        try clear hx5
        try clear c56
        try clear c56b0
        try clear c56b1
        try clear c81b0
        try clear c81b1
        obtain ⟨x7_1, rfl, HA, HK1, BK138, HB⟩ := hrel
        cases gk with
        | zero => exact absurd HA.out (by simp [spec_l10One.l3])
        | succ k1 =>
         have H := HA.out; clear HA; simp only [spec_l10One.l3] at H; rcases cd H, H with ⟨⟨c82b0, H⟩ | ⟨c82b0, H⟩, -⟩
         ·rcases cn H, H with ⟨⟨c83b0, H⟩, -⟩; rcases ce H, H with ⟨⟨-, c85b0, c85b1, H⟩ | ⟨c85, c85b0, c85b1, H⟩, -⟩
          ·rcases ce H, H with ⟨⟨-, c86b0, c86b1, H⟩ | ⟨c86, c86b0, c86b1, H⟩, -⟩
           ·simp only [Option.some.injEq, Prod.mk.injEq] at H; obtain ⟨rfl, rfl, rfl⟩ := H; obtain ⟨p84, q84, hx84⟩ := bt_w a0 x7_1 oa oa; have z87 := bc2 BK138.out; go_wp2; refine bodyPost_ret (results_ct rfl _ _ gb138 84 #[.int .i64 0, .string (⟨#[]⟩ : ByteArray)] (0, 0) _ rfl bx Try.underlying84 rfl (by kernel_rfl)) rfl ?_; exact ⟨by rfl, bw⟩
           ·obtain ⟨ji88, hji88⟩ : ∃ j_ : Int, (wrap64 (a1 + 1)) = j_ := ⟨_, rfl⟩; replace H : (if 0 ≤ (ji88) then (if (ji88) ≤ x7_1 then (if x7_1 ≤ (a0.size : Int) then ((spec_SetOk.f k1 (a0.extract ((ji88) : Int).toNat (x7_1 : Int).toNat)).bind fun t145 => (if t145 = true then (some (4, a0.extract ((ji88) : Int).toNat (x7_1 : Int).toNat, wrap64 (x7_1 + 1))) else (some (0, (⟨#[]⟩ : ByteArray), 0)))) else (none)) else (none)) else (none)) = some (r1, r2, r3) := by (rw [hji88] at H; exact H)
            have hji88w : (IntKind.i64.wrap (a1 + 1)) = ji88 := (i64_w _).trans hji88; rcases cm H, H with ⟨⟨c89, H⟩, -⟩; have c89b0 := eq_true c89; have c89b1 : decide (0 ≤ (ji88)) = true := decide_eq_true c89; clear c89; rcases cm H, H with ⟨⟨c90, H⟩, -⟩; have c90b0 := eq_true c90; have c90b1 : decide ((ji88) ≤ x7_1) = true := decide_eq_true c90; clear c90; rcases cm H, H with ⟨⟨c91, H⟩, -⟩; have c91b0 := eq_true c91; have c91b1 : decide (x7_1 ≤ (a0.size : Int)) = true := decide_eq_true c91; clear c91; rcases ob H, H with ⟨⟨t145, A92, H⟩, -⟩; rcases cb H, H with ⟨⟨rfl, H⟩ | ⟨rfl, H⟩, -⟩
            ·have c94b0 := eq_true (oa : 0 ≤ (ji88)); have c95b0 := eq_true (oa : (ji88) ≤ x7_1); have c96b0 := eq_true (oa : x7_1 ≤ (a0.size : Int)); simp only [Option.some.injEq, Prod.mk.injEq] at H; obtain ⟨rfl, rfl, rfl⟩ := H; obtain ⟨p84, q84, hx84⟩ := bt_w a0 x7_1 oa oa; go_wp2_with ((go_at_call 59; (with_reducible refine (spec_SetOk.calls k1 (a0.extract ((ji88) : Int).toNat (x7_1 : Int).toNat) true _ A92.out).mono ?_); rintro e w97 ⟨rfl, hb⟩; replace BK138 := bb BK138 hb; replace HB := am (below_step bw hb); (try clear hb); have z98 := bc2 BK138.out)); refine bodyPost_ret (results_ct rfl _ _ gb138 84 #[.int .i64 4, .string (a0.extract ((ji88) : Int).toNat (x7_1 : Int).toNat)] (0, 0) _ rfl bx Try.underlying84 rfl (by kernel_rfl)) rfl ?_; exact ⟨by rfl, bw⟩
            ·simp only [Option.some.injEq, Prod.mk.injEq] at H; obtain ⟨rfl, rfl, rfl⟩ := H; obtain ⟨p84, q84, hx84⟩ := bt_w a0 x7_1 oa oa; go_wp2_with ((go_at_call 59; (with_reducible refine (spec_SetOk.calls k1 (a0.extract ((ji88) : Int).toNat (x7_1 : Int).toNat) false _ A92.out).mono ?_); rintro e w99 ⟨rfl, hb⟩; replace BK138 := bb BK138 hb; replace HB := am (below_step bw hb); (try clear hb); have z100 := bc2 BK138.out)); refine bodyPost_ret (results_ct rfl _ _ gb138 84 #[.int .i64 0, .string (⟨#[]⟩ : ByteArray)] (0, 0) _ rfl bx Try.underlying84 rfl (by kernel_rfl)) rfl ?_; exact ⟨by rfl, bw⟩
          ·have H' := am H; clear H; obtain ⟨p84, q84, hx84⟩ := bt_w a0 x7_1 oa oa; go_wp2; go_roundg k1
           case measure => have := HK1.out; omega
           case rel => exact ⟨(wrap64 (x7_1 + 1)), (by rfl), H', ⟨by have := HK1.out; omega⟩, BK138, HB⟩
         ·rcases ce H, H with ⟨⟨-, c101b0, c101b1, H⟩ | ⟨c101, c101b0, c101b1, H⟩, -⟩
          ·simp only [Option.some.injEq, Prod.mk.injEq] at H; obtain ⟨rfl, rfl, rfl⟩ := H; have z102 := bc2 BK138.out; go_wp2; refine bodyPost_ret (results_ct rfl _ _ gb138 84 #[.int .i64 0, .string (⟨#[]⟩ : ByteArray)] (0, 0) _ rfl bx Try.underlying84 rfl (by kernel_rfl)) rfl ?_; exact ⟨by rfl, bw⟩
          ·obtain ⟨ji103, hji103⟩ : ∃ j_ : Int, (wrap64 (a1 + 1)) = j_ := ⟨_, rfl⟩; replace H : (if 0 ≤ (ji103) then (if (ji103) ≤ x7_1 then (if x7_1 ≤ (a0.size : Int) then ((spec_SetOk.f k1 (a0.extract ((ji103) : Int).toNat (x7_1 : Int).toNat)).bind fun t146 => (if t146 = true then (some (4, a0.extract ((ji103) : Int).toNat (x7_1 : Int).toNat, wrap64 (x7_1 + 1))) else (some (0, (⟨#[]⟩ : ByteArray), 0)))) else (none)) else (none)) else (none)) = some (r1, r2, r3) := by (rw [hji103] at H; exact H)
           have hji103w : (IntKind.i64.wrap (a1 + 1)) = ji103 := (i64_w _).trans hji103; rcases cm H, H with ⟨⟨c104, H⟩, -⟩; have c104b0 := eq_true c104; have c104b1 : decide (0 ≤ (ji103)) = true := decide_eq_true c104; clear c104; rcases cm H, H with ⟨⟨c105, H⟩, -⟩; have c105b0 := eq_true c105; have c105b1 : decide ((ji103) ≤ x7_1) = true := decide_eq_true c105; clear c105; rcases cm H, H with ⟨⟨c106, H⟩, -⟩; have c106b0 := eq_true c106; have c106b1 : decide (x7_1 ≤ (a0.size : Int)) = true := decide_eq_true c106; clear c106; rcases ob H, H with ⟨⟨t146, A107, H⟩, -⟩; rcases cb H, H with ⟨⟨rfl, H⟩ | ⟨rfl, H⟩, -⟩
           ·have c109b0 := eq_true (oa : 0 ≤ (ji103)); have c110b0 := eq_true (oa : (ji103) ≤ x7_1); have c111b0 := eq_true (oa : x7_1 ≤ (a0.size : Int)); simp only [Option.some.injEq, Prod.mk.injEq] at H; obtain ⟨rfl, rfl, rfl⟩ := H; go_wp2_with ((go_at_call 59; (with_reducible refine (spec_SetOk.calls k1 (a0.extract ((ji103) : Int).toNat (x7_1 : Int).toNat) true _ A107.out).mono ?_); rintro e w112 ⟨rfl, hb⟩; replace BK138 := bb BK138 hb; replace HB := am (below_step bw hb); (try clear hb); have z113 := bc2 BK138.out)); refine bodyPost_ret (results_ct rfl _ _ gb138 84 #[.int .i64 4, .string (a0.extract ((ji103) : Int).toNat (x7_1 : Int).toNat)] (0, 0) _ rfl bx Try.underlying84 rfl (by kernel_rfl)) rfl ?_; exact ⟨by rfl, bw⟩
           ·simp only [Option.some.injEq, Prod.mk.injEq] at H; obtain ⟨rfl, rfl, rfl⟩ := H; go_wp2_with ((go_at_call 59; (with_reducible refine (spec_SetOk.calls k1 (a0.extract ((ji103) : Int).toNat (x7_1 : Int).toNat) false _ A107.out).mono ?_); rintro e w114 ⟨rfl, hb⟩; replace BK138 := bb BK138 hb; replace HB := am (below_step bw hb); (try clear hb); have z115 := bc2 BK138.out)); refine bodyPost_ret (results_ct rfl _ _ gb138 84 #[.int .i64 0, .string (⟨#[]⟩ : ByteArray)] (0, 0) _ rfl bx Try.underlying84 rfl (by kernel_rfl)) rfl ?_; exact ⟨by rfl, bw⟩
      ·rcases ce H, H with ⟨⟨-, c116b0, c116b1, H⟩ | ⟨c116, c116b0, c116b1, H⟩, -⟩
       ·rcases cd H, H with ⟨⟨c117b0, H⟩ | ⟨c117b0, H⟩, -⟩
        ·obtain ⟨ji118, hji118⟩ : ∃ j_ : Int, (wrap64 (a1 + 1)) = j_ := ⟨_, rfl⟩; replace H : (if 0 ≤ (ji118) then (if (bt a0 (ji118)) = 62 then (some (5, (⟨#[45, 62]⟩ : ByteArray), wrap64 (a1 + 2))) else (spec_l10One.j5 k a0 a1 (bt a0 a1))) else (none)) = some (r1, r2, r3) := by (rw [hji118] at H; exact H)
         (try rw [hji118] at c117b0); (try rw [hji118] at A8); (try rw [hji118] at A37); have hji118w : (IntKind.i64.wrap (a1 + 1)) = ji118 := (i64_w _).trans hji118; rcases cn H, H with ⟨⟨c119b0, H⟩, -⟩; rcases ce H, H with ⟨⟨-, c121b0, c121b1, H⟩ | ⟨c121, c121b0, c121b1, H⟩, -⟩
         ·simp only [Option.some.injEq, Prod.mk.injEq] at H; obtain ⟨rfl, rfl, rfl⟩ := H; go_wp2_with (first | ((with_reducible refine gc 58 ?_); refine gl_ 17 Try.func58 #[.int .u8 (bt a0 a1)] ?_; (with_reducible refine (spec_l10Letter.calls (bt a0 a1) false _ A8.out).mono ?_); rintro e w' ⟨rfl, ⟨nd, rfl⟩⟩; refine ⟨_, rfl, ?_⟩; (try (rw [drewN_self w7]; generalize hq_ : World.drewN w7 _ = w7; have n0_ : Aside0 (w7.heap[gb138]? = some (.cells #[.int .i64 0, .string (⟨#[]⟩ : ByteArray)] 84 (0, 0))) := ⟨by rw [← hq_]; exact bx⟩; have n1_ : Aside0 (Below w.heap.size w w7) := ⟨by rw [← hq_]; exact bw⟩; clear BK138 HB hq_; have BK138 := n0_; have HB := n1_; clear n0_ n1_))) | ((with_reducible refine gc 54 ?_); refine gl_ 66 Try.func54 #[.int .u8 (bt a0 a1)] ?_; (with_reducible refine (spec_l10Figure.calls (bt a0 a1) false _ A37.out).mono ?_); rintro e w' ⟨rfl, ⟨nd, rfl⟩⟩; refine ⟨_, rfl, ?_⟩; (try (rw [drewN_self w7]; generalize hq_ : World.drewN w7 _ = w7; have n0_ : Aside0 (w7.heap[gb138]? = some (.cells #[.int .i64 0, .string (⟨#[]⟩ : ByteArray)] 84 (0, 0))) := ⟨by rw [← hq_]; exact bx⟩; have n1_ : Aside0 (Below w.heap.size w w7) := ⟨by rw [← hq_]; exact bw⟩; clear BK138 HB hq_; have BK138 := n0_; have HB := n1_; clear n0_ n1_)); obtain ⟨p120, q120, hx120⟩ := bt_w a0 (ji118) oa oa; have z122 := bc2 BK138.out)); refine bodyPost_ret (results_ct rfl _ _ gb138 84 #[.int .i64 5, .string (⟨#[45, 62]⟩ : ByteArray)] (0, 0) _ rfl bx Try.underlying84 rfl (by kernel_rfl)) rfl ?_; exact ⟨by rfl, bw⟩
         ·have H' := am H; clear H; go_wp2_with (first | ((with_reducible refine gc 58 ?_); refine gl_ 17 Try.func58 #[.int .u8 (bt a0 a1)] ?_; (with_reducible refine (spec_l10Letter.calls (bt a0 a1) false _ A8.out).mono ?_); rintro e w' ⟨rfl, ⟨nd, rfl⟩⟩; refine ⟨_, rfl, ?_⟩) | ((with_reducible refine gc 54 ?_); refine gl_ 66 Try.func54 #[.int .u8 (bt a0 a1)] ?_; (with_reducible refine (spec_l10Figure.calls (bt a0 a1) false _ A37.out).mono ?_); rintro e w' ⟨rfl, ⟨nd, rfl⟩⟩; refine ⟨_, rfl, ?_⟩; obtain ⟨p120, q120, hx120⟩ := bt_w a0 (ji118) oa oa)); go_meet
          case rel => exact ⟨_, (0), ((⟨#[]⟩ : ByteArray)), H', ⟨by omega⟩, ⟨bx⟩, ⟨bw⟩⟩
        ·have H' := am H; clear H; go_wp2_with (first | ((with_reducible refine gc 58 ?_); refine gl_ 17 Try.func58 #[.int .u8 (bt a0 a1)] ?_; (with_reducible refine (spec_l10Letter.calls (bt a0 a1) false _ A8.out).mono ?_); rintro e w' ⟨rfl, ⟨nd, rfl⟩⟩; refine ⟨_, rfl, ?_⟩) | ((with_reducible refine gc 54 ?_); refine gl_ 66 Try.func54 #[.int .u8 (bt a0 a1)] ?_; (with_reducible refine (spec_l10Figure.calls (bt a0 a1) false _ A37.out).mono ?_); rintro e w' ⟨rfl, ⟨nd, rfl⟩⟩; refine ⟨_, rfl, ?_⟩)); go_meet
         case rel => exact ⟨_, (0), ((⟨#[]⟩ : ByteArray)), H', ⟨by omega⟩, ⟨bx⟩, ⟨bw⟩⟩
       ·have H' := am H; clear H; go_wp2_with (first | ((with_reducible refine gc 58 ?_); refine gl_ 17 Try.func58 #[.int .u8 (bt a0 a1)] ?_; (with_reducible refine (spec_l10Letter.calls (bt a0 a1) false _ A8.out).mono ?_); rintro e w' ⟨rfl, ⟨nd, rfl⟩⟩; refine ⟨_, rfl, ?_⟩) | ((with_reducible refine gc 54 ?_); refine gl_ 66 Try.func54 #[.int .u8 (bt a0 a1)] ?_; (with_reducible refine (spec_l10Figure.calls (bt a0 a1) false _ A37.out).mono ?_); rintro e w' ⟨rfl, ⟨nd, rfl⟩⟩; refine ⟨_, rfl, ?_⟩)); go_meet
        case rel => exact ⟨_, (0), ((⟨#[]⟩ : ByteArray)), H', ⟨by omega⟩, ⟨bx⟩, ⟨bw⟩⟩
  case rest =>
   clear HC6; try clear c3b0
   try clear c4b0
   try clear p5
   try clear q5
   try clear hx5
   obtain ⟨kq, x139000_5, x139001_5, HA, HJ5, BK138, HB⟩ := hcut
   cases kq with
   | zero => exact absurd HA.out (by simp [spec_l10One.j5])
   | succ kj5 =>
    have H := HA.out; clear HA; simp only [spec_l10One.j5] at H; have H' := am H; clear H; go_wp2; go_loopg [9] kj5 (fun kq v9 w' => ∃ (x9_2 : Int) (x139000_2 : Int) (x139001_2 : ByteArray), v9 = .int .i64 x9_2 ∧ Aside0 (spec_l10One.l4 kq a0 a1 (bt a0 a1) (⟨#[40, 41, 123, 125, 124, 42, 43, 63, 58, 44, 59, 61, 64, 45, 47, 60, 38, 33]⟩ : ByteArray) x9_2 = some (r1, r2, r3)) ∧ Aside0 (kq ≤ kj5) ∧ Aside0 (w'.heap[gb138]? = some (.cells #[.int .i64 x139000_2, .string x139001_2] 84 (0, 0))) ∧ Aside0 (Below w.heap.size w w'))
    case atStart => exact ⟨(0), (x139000_5), (x139001_5), (by rfl), H', ⟨Nat.le_refl _⟩, BK138, HB⟩
    case round =>
     clear H'; obtain ⟨x9_2, x139000_2, x139001_2, rfl, HA, HK2, BK138, HB⟩ := hrel
     cases gk with
     | zero => exact absurd HA.out (by simp [spec_l10One.l4])
     | succ k2 =>
      have H := HA.out; clear HA; simp only [spec_l10One.l4] at H; by_cases c123 : x9_2 < ((⟨#[40, 41, 123, 125, 124, 42, 43, 63, 58, 44, 59, 61, 64, 45, 47, 60, 38, 33]⟩ : ByteArray).size : Int)
      ·rw [if_pos c123] at H; have c123b0 : decide (x9_2 < ((⟨#[40, 41, 123, 125, 124, 42, 43, 63, 58, 44, 59, 61, 64, 45, 47, 60, 38, 33]⟩ : ByteArray).size : Int)) = true := decide_eq_true c123; try have c123b0z : decide (x9_2 < 18) = true := decide_eq_true c123
       (try (have c123b1 : decide (x9_2 < 18) = true := decide_eq_true c123)); clear c123; rcases cn H, H with ⟨⟨c124b0, H⟩, -⟩; rcases ce H, H with ⟨⟨-, c126b0, c126b1, H⟩ | ⟨c126, c126b0, c126b1, H⟩, -⟩
       ·rcases cm H, H with ⟨⟨c127, H⟩, -⟩; have c127b0 := eq_true c127; have c127b1 : decide (0 ≤ a1) = true := decide_eq_true c127; clear c127; rcases cm H, H with ⟨⟨c128, H⟩, -⟩; have c128b0 := eq_true c128; have c128b1 : decide (a1 ≤ (wrap64 (a1 + 1))) = true := decide_eq_true c128; rcases cm H, H with ⟨⟨c129, H⟩, -⟩; have c129b0 := eq_true c129; have c129b1 : decide ((wrap64 (a1 + 1)) ≤ (a0.size : Int)) = true := decide_eq_true c129; simp only [Option.some.injEq, Prod.mk.injEq] at H; obtain ⟨rfl, rfl, rfl⟩ := H; have p125 : 0 ≤ (x9_2 : Int) := oa; have q125 : x9_2 < (18 : Int) := oa; have hx125 := bt_at (⟨#[40, 41, 123, 125, 124, 42, 43, 63, 58, 44, 59, 61, 64, 45, 47, 60, 38, 33]⟩ : ByteArray) x9_2; replace p125 := eq_true p125; replace q125 := eq_true q125; have z130 := bc2 BK138.out; go_wp2; refine bodyPost_ret (results_ct rfl _ _ gb138 84 #[.int .i64 5, .string (a0.extract (a1 : Int).toNat ((wrap64 (a1 + 1)) : Int).toNat)] (0, 0) _ rfl bx Try.underlying84 rfl (by kernel_rfl)) rfl ?_; exact ⟨by rfl, bw⟩
       ·have H' := am H; clear H; have p125 : 0 ≤ (x9_2 : Int) := oa; have q125 : x9_2 < (18 : Int) := oa; have hx125 := bt_at (⟨#[40, 41, 123, 125, 124, 42, 43, 63, 58, 44, 59, 61, 64, 45, 47, 60, 38, 33]⟩ : ByteArray) x9_2; replace p125 := eq_true p125; replace q125 := eq_true q125; go_wp2; go_roundg k2
        case measure => have := HJ5.out; have := HK2.out; omega
        case rel => exact ⟨(wrap64 (x9_2 + 1)), (x139000_2), (x139001_2), (by rfl), H', ⟨by have := HJ5.out; have := HK2.out; omega⟩, BK138, HB⟩
      ·rw [if_neg c123] at H; have c123b0 : decide (x9_2 < ((⟨#[40, 41, 123, 125, 124, 42, 43, 63, 58, 44, 59, 61, 64, 45, 47, 60, 38, 33]⟩ : ByteArray).size : Int)) = false := decide_eq_false c123; try have c123b0z : decide (x9_2 < 18) = false := decide_eq_false c123
       (try (have c123b1 : decide (x9_2 < 18) = false := decide_eq_false c123)); clear c123; simp only [Option.some.injEq, Prod.mk.injEq] at H; obtain ⟨rfl, rfl, rfl⟩ := H; have z131 := bc2 BK138.out; go_wp2; refine bodyPost_ret (results_ct rfl _ _ gb138 84 #[.int .i64 0, .string (⟨#[]⟩ : ByteArray)] (0, 0) _ rfl bx Try.underlying84 rfl (by kernel_rfl)) rfl ?_; exact ⟨by rfl, bw⟩
 ·rw [if_neg c3] at H; exact absurd H (by simp)
end Go.Proofs.Ythdoibaeamiepaa.PFnRuleNames
