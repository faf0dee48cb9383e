/- Written by a program of this session out of Lean's print of the translation: what the calls of these Go functions come to, in plain Lean. No condition. -/
import Derived.Test.YtceimgnkkclebaaPFnTokenFaultsx0
import Derived.Test.YtceimgnkkclebaaPFnTokenFaultsx6
import Derived.Test.YtceimgnkkclebaaPFnTokenFaultsx7
namespace Go.Proofs.Ytceimgnkkclebaa.PFnTokenFaults
open Go.RowKit Go.Proofs.YtceimgnkkclebaaW.PrintWords Go.Proofs.YtceimgnkkclebaaW.PrintLast Go.Proofs.YtceimgnkkclebaaW.PrintMore
attribute [local go_sem] max2_int min2_int max_two min_two max_three min_three max_four min_four   -- for this text's walks alone
set_option linter.unusedVariables false
set_option linter.unusedSimpArgs false

/-! ### spec_l10One: function 16 -/
mutual
def spec_l10One.j5 : Nat → ByteArray → Int → Int → Option (Int × ByteArray × Int)
  | 0, _, _, _ => none
  | k + 1, x0, x1, x6 => spec_l10One.l4 k x0 x1 x6 (⟨#[40, 41, 123, 125, 124, 42, 43, 63, 58, 44, 59, 61, 64, 45, 47, 60, 38, 33]⟩ : ByteArray) 0
def spec_l10One.l4 : Nat → ByteArray → Int → Int → ByteArray → Int → Option (Int × ByteArray × Int)
  | 0, _, _, _, _, _ => none
  | k + 1, x0, x1, x6, x8, x9 => if x9 < (x8.size : Int) then (if 0 ≤ x9 then (if (bt x8 x9) = x6 then (if 0 ≤ x1 then (if x1 ≤ (wrap64 (x1 + 1)) then (if (wrap64 (x1 + 1)) ≤ (x0.size : Int) then (some (5, x0.extract (x1 : Int).toNat ((wrap64 (x1 + 1)) : Int).toNat, wrap64 (x1 + 1))) else (none)) else (none)) else (none)) else (spec_l10One.l4 k x0 x1 x6 x8 (wrap64 (x9 + 1)))) else (none)) else (some (0, (⟨#[]⟩ : ByteArray), 0))
def spec_l10One.j1 : Nat → ByteArray → Int → Int → Option (Int × ByteArray × Int)
  | 0, _, _, _ => none
  | k + 1, x0, x1, x7 => if (wrap64 (x7 - x1)) > 6 then (some (0, (⟨#[]⟩ : ByteArray), 0)) else (if x7 < (x0.size : Int) then (if 0 ≤ x7 then (if (bt x0 x7) = 40 then (if 0 ≤ x1 then (if x1 ≤ x7 then (if x7 ≤ (x0.size : Int) then (some (6, x0.extract (x1 : Int).toNat (x7 : Int).toNat, wrap64 (x7 + 1))) else (none)) else (none)) else (none)) else (if 0 ≤ x1 then (if x1 ≤ x7 then (if x7 ≤ (x0.size : Int) then (some (1, x0.extract (x1 : Int).toNat (x7 : Int).toNat, x7)) else (none)) else (none)) else (none))) else (none)) else (if 0 ≤ x1 then (if x1 ≤ x7 then (if x7 ≤ (x0.size : Int) then (some (1, x0.extract (x1 : Int).toNat (x7 : Int).toNat, x7)) else (none)) else (none)) else (none)))
def spec_l10One.l0 : Nat → ByteArray → Int → Int → Option (Int × ByteArray × Int)
  | 0, _, _, _ => none
  | k + 1, x0, x1, x7 => if x7 < (x0.size : Int) then (if 0 ≤ x7 then ((spec_l10Letter.f (bt x0 x7)).bind fun t261 => (if t261 = true then (spec_l10One.l0 k x0 x1 (wrap64 (x7 + 1))) else ((spec_l10Figure.f (bt x0 x7)).bind fun t262 => (if t262 = true then (spec_l10One.l0 k x0 x1 (wrap64 (x7 + 1))) else (spec_l10One.j1 k x0 x1 x7))))) else (none)) else (spec_l10One.j1 k x0 x1 x7)
def spec_l10One.l1 : Nat → ByteArray → Int → Int → Option (Int × ByteArray × Int)
  | 0, _, _, _ => none
  | k + 1, x0, x1, x7 => if x7 < (x0.size : Int) then (if 0 ≤ x7 then ((spec_l10Figure.f (bt x0 x7)).bind fun t264 => (if t264 = true then (spec_l10One.l1 k x0 x1 (wrap64 (x7 + 1))) else (if (wrap64 (x7 - x1)) > 2 then (some (0, (⟨#[]⟩ : ByteArray), 0)) else (if 0 ≤ x1 then (if x1 ≤ x7 then (if x7 ≤ (x0.size : Int) then (some (2, x0.extract (x1 : Int).toNat (x7 : Int).toNat, x7)) else (none)) else (none)) else (none))))) else (none)) else (if (wrap64 (x7 - x1)) > 2 then (some (0, (⟨#[]⟩ : ByteArray), 0)) else (if 0 ≤ x1 then (if x1 ≤ x7 then (if x7 ≤ (x0.size : Int) then (some (2, x0.extract (x1 : Int).toNat (x7 : Int).toNat, x7)) else (none)) else (none)) else (none)))
def spec_l10One.l2 : Nat → ByteArray → Int → Int → Option (Int × ByteArray × Int)
  | 0, _, _, _ => none
  | k + 1, x0, x1, x7 => if x7 < (x0.size : Int) then (if 0 ≤ x7 then (if (bt x0 x7) = 34 then (if x7 = (x0.size : Int) then (some (0, (⟨#[]⟩ : ByteArray), 0)) else ((spec_l01In.f (wrap64 ((wrap64 (x7 - x1)) - 1)) 1 8).bind fun t265 => (if t265 = true then (if 0 ≤ (wrap64 (x1 + 1)) then (if (wrap64 (x1 + 1)) ≤ x7 then (if x7 ≤ (x0.size : Int) then (some (3, x0.extract ((wrap64 (x1 + 1)) : Int).toNat (x7 : Int).toNat, wrap64 (x7 + 1))) else (none)) else (none)) else (none)) else (some (0, (⟨#[]⟩ : ByteArray), 0))))) else (if (bt x0 x7) = 10 then (if x7 = (x0.size : Int) then (some (0, (⟨#[]⟩ : ByteArray), 0)) else (some (0, (⟨#[]⟩ : ByteArray), 0))) else (spec_l10One.l2 k x0 x1 (wrap64 (x7 + 1))))) else (none)) else (if x7 = (x0.size : Int) then (some (0, (⟨#[]⟩ : ByteArray), 0)) else (if 0 ≤ x7 then (none) else (none)))
def spec_l10One.l3 : Nat → ByteArray → Int → Int → Option (Int × ByteArray × Int)
  | 0, _, _, _ => none
  | k + 1, x0, x1, x7 => if x7 < (x0.size : Int) then (if 0 ≤ x7 then (if (bt x0 x7) = 93 then (if x7 = (x0.size : Int) then (some (0, (⟨#[]⟩ : ByteArray), 0)) else (if 0 ≤ (wrap64 (x1 + 1)) then (if (wrap64 (x1 + 1)) ≤ x7 then (if x7 ≤ (x0.size : Int) then ((spec_SetOk.f k (x0.extract ((wrap64 (x1 + 1)) : Int).toNat (x7 : Int).toNat)).bind fun t266 => (if t266 = true then (some (4, x0.extract ((wrap64 (x1 + 1)) : Int).toNat (x7 : Int).toNat, wrap64 (x7 + 1))) else (some (0, (⟨#[]⟩ : ByteArray), 0)))) else (none)) else (none)) else (none))) else (spec_l10One.l3 k x0 x1 (wrap64 (x7 + 1)))) else (none)) else (if x7 = (x0.size : Int) then (some (0, (⟨#[]⟩ : ByteArray), 0)) else (if 0 ≤ (wrap64 (x1 + 1)) then (if (wrap64 (x1 + 1)) ≤ x7 then (if x7 ≤ (x0.size : Int) then ((spec_SetOk.f k (x0.extract ((wrap64 (x1 + 1)) : Int).toNat (x7 : Int).toNat)).bind fun t267 => (if t267 = true then (some (4, x0.extract ((wrap64 (x1 + 1)) : Int).toNat (x7 : Int).toNat, wrap64 (x7 + 1))) else (some (0, (⟨#[]⟩ : ByteArray), 0)))) else (none)) else (none)) else (none)))
end
def spec_l10One.f (k : Nat) (a0 : ByteArray) (a1 : Int) : Option (Int × ByteArray × Int) := if 0 ≤ a1 then (if a1 < (a0.size : Int) then ((spec_l10Letter.f (bt a0 a1)).bind fun t260 => (if t260 = true then (spec_l10One.l0 k a0 a1 (wrap64 (a1 + 1))) else ((spec_l10Figure.f (bt a0 a1)).bind fun t263 => (if t263 = true then (spec_l10One.l1 k a0 a1 (wrap64 (a1 + 1))) else (if (bt a0 a1) = 34 then (spec_l10One.l2 k a0 a1 (wrap64 (a1 + 1))) else (if (bt a0 a1) = 91 then (spec_l10One.l3 k a0 a1 (wrap64 (a1 + 1))) else (if (bt a0 a1) = 45 then (if (wrap64 (a1 + 1)) < (a0.size : Int) then (if 0 ≤ (wrap64 (a1 + 1)) then (if (bt a0 (wrap64 (a1 + 1))) = 62 then (some (5, (⟨#[45, 62]⟩ : ByteArray), wrap64 (a1 + 2))) else (spec_l10One.j5 k a0 a1 (bt a0 a1))) else (none)) else (spec_l10One.j5 k a0 a1 (bt a0 a1))) else (spec_l10One.j5 k a0 a1 (bt a0 a1))))))))) else (none)) else (none)
theorem spec_l10One.mono_l : ∀ k, (∀ y0 y1 y2, LeO (spec_l10One.j5 k y0 y1 y2) (spec_l10One.j5 (k + 1) y0 y1 y2)) ∧ (∀ y0 y1 y2 y3 y4, LeO (spec_l10One.l4 k y0 y1 y2 y3 y4) (spec_l10One.l4 (k + 1) y0 y1 y2 y3 y4)) ∧ (∀ y0 y1 y2, LeO (spec_l10One.j1 k y0 y1 y2) (spec_l10One.j1 (k + 1) y0 y1 y2)) ∧ (∀ y0 y1 y2, LeO (spec_l10One.l0 k y0 y1 y2) (spec_l10One.l0 (k + 1) y0 y1 y2)) ∧ (∀ y0 y1 y2, LeO (spec_l10One.l1 k y0 y1 y2) (spec_l10One.l1 (k + 1) y0 y1 y2)) ∧ (∀ y0 y1 y2, LeO (spec_l10One.l2 k y0 y1 y2) (spec_l10One.l2 (k + 1) y0 y1 y2)) ∧ (∀ y0 y1 y2, LeO (spec_l10One.l3 k y0 y1 y2) (spec_l10One.l3 (k + 1) y0 y1 y2))
  | 0 => ⟨fun _ _ _ r h => by simp [spec_l10One.j5] at h, fun _ _ _ _ _ r h => by simp [spec_l10One.l4] at h, fun _ _ _ r h => by simp [spec_l10One.j1] at h, fun _ _ _ r h => by simp [spec_l10One.l0] at h, fun _ _ _ r h => by simp [spec_l10One.l1] at h, fun _ _ _ r h => by simp [spec_l10One.l2] at h, fun _ _ _ r h => by simp [spec_l10One.l3] at h⟩
  | k + 1 => by
    obtain ⟨ih0, ih1, ih2, ih3, ih4, ih5, ih6⟩ := spec_l10One.mono_l k
    refine ⟨?_, ?_, ?_, ?_, ?_, ?_, ?_⟩
    · intro y0 y1 y2
      unfold spec_l10One.j5
      repeat' first
      | (with_reducible exact ih0 _ _ _)
      | (with_reducible exact ih1 _ _ _ _ _)
      | (with_reducible exact ih2 _ _ _)
      | (with_reducible exact ih3 _ _ _)
      | (with_reducible exact ih4 _ _ _)
      | (with_reducible exact ih5 _ _ _)
      | (with_reducible exact ih6 _ _ _)
      | (with_reducible exact spec_SetOk.mono _ _)
      | (with_reducible exact LeO.refl _)
      | (with_reducible exact LeO.none _)
      | (with_reducible refine LeO.ite ?_ ?_)
      | (with_reducible refine LeO.bind ?_ (fun _ => ?_))
      | exact ih0 _ _ _
      | exact ih1 _ _ _ _ _
      | exact ih2 _ _ _
      | exact ih3 _ _ _
      | exact ih4 _ _ _
      | exact ih5 _ _ _
      | exact ih6 _ _ _
      | exact spec_SetOk.mono _ _
      | exact LeO.none _
      | refine LeO.ite ?_ ?_
      | refine LeO.bind ?_ (fun _ => ?_)
    · intro y0 y1 y2 y3 y4
      unfold spec_l10One.l4
      repeat' first
      | (with_reducible exact ih0 _ _ _)
      | (with_reducible exact ih1 _ _ _ _ _)
      | (with_reducible exact ih2 _ _ _)
      | (with_reducible exact ih3 _ _ _)
      | (with_reducible exact ih4 _ _ _)
      | (with_reducible exact ih5 _ _ _)
      | (with_reducible exact ih6 _ _ _)
      | (with_reducible exact spec_SetOk.mono _ _)
      | (with_reducible exact LeO.refl _)
      | (with_reducible exact LeO.none _)
      | (with_reducible refine LeO.ite ?_ ?_)
      | (with_reducible refine LeO.bind ?_ (fun _ => ?_))
      | exact ih0 _ _ _
      | exact ih1 _ _ _ _ _
      | exact ih2 _ _ _
      | exact ih3 _ _ _
      | exact ih4 _ _ _
      | exact ih5 _ _ _
      | exact ih6 _ _ _
      | exact spec_SetOk.mono _ _
      | exact LeO.none _
      | refine LeO.ite ?_ ?_
      | refine LeO.bind ?_ (fun _ => ?_)
    · intro y0 y1 y2
      unfold spec_l10One.j1
      repeat' first
      | (with_reducible exact ih0 _ _ _)
      | (with_reducible exact ih1 _ _ _ _ _)
      | (with_reducible exact ih2 _ _ _)
      | (with_reducible exact ih3 _ _ _)
      | (with_reducible exact ih4 _ _ _)
      | (with_reducible exact ih5 _ _ _)
      | (with_reducible exact ih6 _ _ _)
      | (with_reducible exact spec_SetOk.mono _ _)
      | (with_reducible exact LeO.refl _)
      | (with_reducible exact LeO.none _)
      | (with_reducible refine LeO.ite ?_ ?_)
      | (with_reducible refine LeO.bind ?_ (fun _ => ?_))
      | exact ih0 _ _ _
      | exact ih1 _ _ _ _ _
      | exact ih2 _ _ _
      | exact ih3 _ _ _
      | exact ih4 _ _ _
      | exact ih5 _ _ _
      | exact ih6 _ _ _
      | exact spec_SetOk.mono _ _
      | exact LeO.none _
      | refine LeO.ite ?_ ?_
      | refine LeO.bind ?_ (fun _ => ?_)
    · intro y0 y1 y2
      unfold spec_l10One.l0
      repeat' first
      | (with_reducible exact ih0 _ _ _)
      | (with_reducible exact ih1 _ _ _ _ _)
      | (with_reducible exact ih2 _ _ _)
      | (with_reducible exact ih3 _ _ _)
      | (with_reducible exact ih4 _ _ _)
      | (with_reducible exact ih5 _ _ _)
      | (with_reducible exact ih6 _ _ _)
      | (with_reducible exact spec_SetOk.mono _ _)
      | (with_reducible exact LeO.refl _)
      | (with_reducible exact LeO.none _)
      | (with_reducible refine LeO.ite ?_ ?_)
      | (with_reducible refine LeO.bind ?_ (fun _ => ?_))
      | exact ih0 _ _ _
      | exact ih1 _ _ _ _ _
      | exact ih2 _ _ _
      | exact ih3 _ _ _
      | exact ih4 _ _ _
      | exact ih5 _ _ _
      | exact ih6 _ _ _
      | exact spec_SetOk.mono _ _
      | exact LeO.none _
      | refine LeO.ite ?_ ?_
      | refine LeO.bind ?_ (fun _ => ?_)
    · intro y0 y1 y2
      unfold spec_l10One.l1
      repeat' first
      | (with_reducible exact ih0 _ _ _)
      | (with_reducible exact ih1 _ _ _ _ _)
      | (with_reducible exact ih2 _ _ _)
      | (with_reducible exact ih3 _ _ _)
      | (with_reducible exact ih4 _ _ _)
      | (with_reducible exact ih5 _ _ _)
      | (with_reducible exact ih6 _ _ _)
      | (with_reducible exact spec_SetOk.mono _ _)
      | (with_reducible exact LeO.refl _)
      | (with_reducible exact LeO.none _)
      | (with_reducible refine LeO.ite ?_ ?_)
      | (with_reducible refine LeO.bind ?_ (fun _ => ?_))
      | exact ih0 _ _ _
      | exact ih1 _ _ _ _ _
      | exact ih2 _ _ _
      | exact ih3 _ _ _
      | exact ih4 _ _ _
      | exact ih5 _ _ _
      | exact ih6 _ _ _
      | exact spec_SetOk.mono _ _
      | exact LeO.none _
      | refine LeO.ite ?_ ?_
      | refine LeO.bind ?_ (fun _ => ?_)
    · intro y0 y1 y2
      unfold spec_l10One.l2
      repeat' first
      | (with_reducible exact ih0 _ _ _)
      | (with_reducible exact ih1 _ _ _ _ _)
      | (with_reducible exact ih2 _ _ _)
      | (with_reducible exact ih3 _ _ _)
      | (with_reducible exact ih4 _ _ _)
      | (with_reducible exact ih5 _ _ _)
      | (with_reducible exact ih6 _ _ _)
      | (with_reducible exact spec_SetOk.mono _ _)
      | (with_reducible exact LeO.refl _)
      | (with_reducible exact LeO.none _)
      | (with_reducible refine LeO.ite ?_ ?_)
      | (with_reducible refine LeO.bind ?_ (fun _ => ?_))
      | exact ih0 _ _ _
      | exact ih1 _ _ _ _ _
      | exact ih2 _ _ _
      | exact ih3 _ _ _
      | exact ih4 _ _ _
      | exact ih5 _ _ _
      | exact ih6 _ _ _
      | exact spec_SetOk.mono _ _
      | exact LeO.none _
      | refine LeO.ite ?_ ?_
      | refine LeO.bind ?_ (fun _ => ?_)
    · intro y0 y1 y2
      unfold spec_l10One.l3
      repeat' first
      | (with_reducible exact ih0 _ _ _)
      | (with_reducible exact ih1 _ _ _ _ _)
      | (with_reducible exact ih2 _ _ _)
      | (with_reducible exact ih3 _ _ _)
      | (with_reducible exact ih4 _ _ _)
      | (with_reducible exact ih5 _ _ _)
      | (with_reducible exact ih6 _ _ _)
      | (with_reducible exact spec_SetOk.mono _ _)
      | (with_reducible exact LeO.refl _)
      | (with_reducible exact LeO.none _)
      | (with_reducible refine LeO.ite ?_ ?_)
      | (with_reducible refine LeO.bind ?_ (fun _ => ?_))
      | exact ih0 _ _ _
      | exact ih1 _ _ _ _ _
      | exact ih2 _ _ _
      | exact ih3 _ _ _
      | exact ih4 _ _ _
      | exact ih5 _ _ _
      | exact ih6 _ _ _
      | exact spec_SetOk.mono _ _
      | exact LeO.none _
      | refine LeO.ite ?_ ?_
      | refine LeO.bind ?_ (fun _ => ?_)
theorem spec_l10One.mono : ∀ a0 a1 k, LeO (spec_l10One.f k a0 a1) (spec_l10One.f (k + 1) a0 a1) := by
  intro a0 a1 k
  obtain ⟨ih0, ih1, ih2, ih3, ih4, ih5, ih6⟩ := spec_l10One.mono_l k
  unfold spec_l10One.f
  repeat' first
      | (with_reducible exact ih0 _ _ _)
      | (with_reducible exact ih1 _ _ _ _ _)
      | (with_reducible exact ih2 _ _ _)
      | (with_reducible exact ih3 _ _ _)
      | (with_reducible exact ih4 _ _ _)
      | (with_reducible exact ih5 _ _ _)
      | (with_reducible exact ih6 _ _ _)
      | (with_reducible exact spec_SetOk.mono _ _)
      | (with_reducible exact LeO.refl _)
      | (with_reducible exact LeO.none _)
      | (with_reducible refine LeO.ite ?_ ?_)
      | (with_reducible refine LeO.bind ?_ (fun _ => ?_))
      | exact ih0 _ _ _
      | exact ih1 _ _ _ _ _
      | exact ih2 _ _ _
      | exact ih3 _ _ _
      | exact ih4 _ _ _
      | exact ih5 _ _ _
      | exact ih6 _ _ _
      | exact spec_SetOk.mono _ _
      | exact LeO.none _
      | refine LeO.ite ?_ ?_
      | refine LeO.bind ?_ (fun _ => ?_)
set_option maxHeartbeats 8000000 in
set_option maxRecDepth 100000 in
theorem spec_l10One.calls (k : Nat) (a0 : ByteArray) (a1 : Int) (r1 : Int) (r2 : ByteArray) (r3 : Int) (w : World) (h : spec_l10One.f k a0 a1 = some (r1, r2, r3)) :
    Calls Try.prog 16 #[.string a0, .int .i64 a1] w fun e w' => e = .returned (.tuple #[.agg #[.int .i64 r1, .string r2], .int .i64 r3]) ∧ Below w.heap.size w w' := by
  have hu29 := Try.underlying29
  have HB := Aside0.mk (Below.refl w.heap.size w)
  have H : (if 0 ≤ a1 then (if a1 < (a0.size : Int) then ((spec_l10Letter.f (bt a0 a1)).bind fun t260 => (if t260 = true then (spec_l10One.l0 k a0 a1 (wrap64 (a1 + 1))) else ((spec_l10Figure.f (bt a0 a1)).bind fun t263 => (if t263 = true then (spec_l10One.l1 k a0 a1 (wrap64 (a1 + 1))) else (if (bt a0 a1) = 34 then (spec_l10One.l2 k a0 a1 (wrap64 (a1 + 1))) else (if (bt a0 a1) = 91 then (spec_l10One.l3 k a0 a1 (wrap64 (a1 + 1))) else (if (bt a0 a1) = 45 then (if (wrap64 (a1 + 1)) < (a0.size : Int) then (if 0 ≤ (wrap64 (a1 + 1)) then (if (bt a0 (wrap64 (a1 + 1))) = 62 then (some (5, (⟨#[45, 62]⟩ : ByteArray), wrap64 (a1 + 2))) else (spec_l10One.j5 k a0 a1 (bt a0 a1))) else (none)) else (spec_l10One.j5 k a0 a1 (bt a0 a1))) else (spec_l10One.j5 k a0 a1 (bt a0 a1))))))))) else (none)) else (none)) = some (r1, r2, r3) := h
  clear h
  by_cases c3 : 0 ≤ a1
  · rw [if_pos c3] at H
    have c3b0 : decide (0 ≤ a1) = true := decide_eq_true c3
    clear c3
    by_cases c4 : a1 < (a0.size : Int)
    · rw [if_pos c4] at H
      have c4b0 : decide (a1 < (a0.size : Int)) = true := decide_eq_true c4
      clear c4
      have HC6 := Aside0.mk H
      clear H
      go_enter Try.func16, Try.ntmps16
      go_upto_block 0 with (first | ((with_reducible refine gate_dst (N := 4) rfl ?_); (try (refine gate_guard (by rfl) ?_; dsimp only)); refine box_event ?hg (N := 4) ?hd (cs := #[.int .i64 0, .string (⟨#[]⟩ : ByteArray)]) (t := 29) ?hr ?_; (case hd => rfl); (case hg => rfl); (case hr => first | (go_simp; done) | (go_simp; rfl)); intro gb259 hg w7 hbox hb; have n0_ := Aside0.mk (below_step bw hb); have n1_ := Aside0.mk (hbox); have n2_ := Aside0.mk ((bz bw hg : w.heap.size ≤ gb259)); have n3_ := Aside0.mk ((bz bw hg : w.heap.size ≤ gb259)); clear HB; have HB := n0_; have BK259 := n1_; have GW259 := n2_; have GE259 := n3_; clear n0_ n1_ n2_ n3_; clear hb hbox hg; have p5 : 0 ≤ (a1 : Int) := oa; have q5 : a1 < (a0.size : Int) := oa; have hx5 := bt_at a0 a1; replace p5 := eq_true p5; replace q5 := eq_true q5))
      (try simp only [Act.put, List.setIfInBounds_toArray, List.set_cons_zero, List.set_cons_succ])
      go_cut [] (fun wc => ∃ (kq : Nat) (x260000_5 : Int) (x260001_5 : ByteArray), Aside0 (spec_l10One.j5 kq a0 a1 (bt a0 a1) = some (r1, r2, r3)) ∧ Aside0 (kq ≤ k) ∧ Aside0 (wc.heap[gb259]? = some (.cells #[.int .i64 x260000_5, .string x260001_5] 29 (0, 0))) ∧ Aside0 (Below w.heap.size w wc))
      case first =>
        have H := HC6.out
        clear HC6
        replace H := Option.bind_eq_some_iff.mp H
        obtain ⟨t260, A80, H⟩ := H
        replace H : (if t260 = true then (spec_l10One.l0 k a0 a1 (wrap64 (a1 + 1))) else ((spec_l10Figure.f (bt a0 a1)).bind fun t263 => (if t263 = true then (spec_l10One.l1 k a0 a1 (wrap64 (a1 + 1))) else (if (bt a0 a1) = 34 then (spec_l10One.l2 k a0 a1 (wrap64 (a1 + 1))) else (if (bt a0 a1) = 91 then (spec_l10One.l3 k a0 a1 (wrap64 (a1 + 1))) else (if (bt a0 a1) = 45 then (if (wrap64 (a1 + 1)) < (a0.size : Int) then (if 0 ≤ (wrap64 (a1 + 1)) then (if (bt a0 (wrap64 (a1 + 1))) = 62 then (some (5, (⟨#[45, 62]⟩ : ByteArray), wrap64 (a1 + 2))) else (spec_l10One.j5 k a0 a1 (bt a0 a1))) else (none)) else (spec_l10One.j5 k a0 a1 (bt a0 a1))) else (spec_l10One.j5 k a0 a1 (bt a0 a1)))))))) = some (r1, r2, r3) := H
        have A8 := Aside0.mk A80
        clear A80
        by_cases c9 : t260 = true
        · subst c9
          have H1 : (spec_l10One.l0 k a0 a1 (wrap64 (a1 + 1))) = some (r1, r2, r3) := by rw [if_pos rfl] at H; exact H
          clear H
          have H := H1
          clear H1
          have HC10 := Aside0.mk H
          clear H
          go_upto_block 1 with (first | ((with_reducible refine gate_callee (f := 27) rfl ?_); refine goesL_ (some 17) rfl rfl Try.func27 (by kernel_rfl) rfl #[.int .u8 (bt a0 a1)] rfl (by (try simp only [List.map_toArray, List.map_cons, List.map_nil]); first | done | rfl | (simp only [List.length_drop, List.length_take]; rfl)) ?_; (with_reducible refine (spec_l10Letter.calls (bt a0 a1) true _ A8.out).mono ?_); rintro e w' ⟨rfl, ⟨nd, rfl⟩⟩; refine ⟨_, rfl, ?_⟩))
          (try simp only [Act.put, List.setIfInBounds_toArray, List.set_cons_zero, List.set_cons_succ])
          go_cut [7] (fun v7 wc => ∃ (kq : Nat) (x7_9 : Int), v7 = .int .i64 x7_9 ∧ Aside0 (spec_l10One.j1 kq a0 a1 x7_9 = some (r1, r2, r3)) ∧ Aside0 (kq ≤ k) ∧ Aside0 (wc.heap[gb259]? = some (.cells #[.int .i64 0, .string (⟨#[]⟩ : ByteArray)] 29 (0, 0))) ∧ Aside0 (Below w.heap.size w wc))
          case first =>
            have H := HC10.out
            clear HC10
            have H' := Aside0.mk H
            clear H
            go_wp2
            go_loopg [7] k (fun kq v7 w' => ∃ (x7_1 : Int), v7 = .int .i64 x7_1 ∧ Aside0 (spec_l10One.l0 kq a0 a1 x7_1 = some (r1, r2, r3)) ∧ Aside0 (kq ≤ k) ∧ Aside0 (w'.heap[gb259]? = some (.cells #[.int .i64 0, .string (⟨#[]⟩ : ByteArray)] 29 (0, 0))) ∧ Aside0 (Below w.heap.size w w'))
            case atStart => exact ⟨(wrap64 (a1 + 1)), (by first | rfl | (simp; done) | (simp [*]; done) | (simp [isE0, isE1]; done)), H', ⟨Nat.le_refl _⟩, ⟨by (with_reducible repeat (first | refine blk_drewN ?_ _ | refine blk_drew ?_ | refine blk_alloc ?_ _)); exact BK259.out⟩, ⟨by repeat (first | (with_reducible first | exact HB.out | apply below_alloc | apply pw_below_drewN | apply below_drew1 | refine below_set ?_ GE259.out) | exact HB.out)⟩⟩
            case round =>
              clear H'
              try clear c1
              try clear c2
              try clear p2
              try clear c3
              try clear c3b0
              try clear c4
              try clear c4b0
              try clear p5
              try clear q5
              try clear hx5
              try clear p6
              try clear c9
              try clear p5
              try clear q5
              obtain ⟨x7_1, rfl, HA, HK1, BK259, HB⟩ := hrel
              cases gk with
              | zero => exact absurd HA.out (by simp [spec_l10One.l0])
              | succ k1 =>
                have H := HA.out
                clear HA
                simp only [spec_l10One.l0] at H
                by_cases c11 : x7_1 < (a0.size : Int)
                · rw [if_pos c11] at H
                  have c11b0 : decide (x7_1 < (a0.size : Int)) = true := decide_eq_true c11
                  clear c11
                  (first | rw [c11b0] | (simp only [i64_w, i32_w]; rw [c11b0]) | skip)
                  by_cases c12 : 0 ≤ x7_1
                  · rw [if_pos c12] at H
                    have c12b0 : decide (0 ≤ x7_1) = true := decide_eq_true c12
                    clear c12
                    replace H := Option.bind_eq_some_iff.mp H
                    obtain ⟨t261, A140, H⟩ := H
                    replace H : (if t261 = true then (spec_l10One.l0 k1 a0 a1 (wrap64 (x7_1 + 1))) else ((spec_l10Figure.f (bt a0 x7_1)).bind fun t262 => (if t262 = true then (spec_l10One.l0 k1 a0 a1 (wrap64 (x7_1 + 1))) else (spec_l10One.j1 k1 a0 a1 x7_1)))) = some (r1, r2, r3) := H
                    have A14 := Aside0.mk A140
                    clear A140
                    by_cases c15 : t261 = true
                    · subst c15
                      have H1 : (spec_l10One.l0 k1 a0 a1 (wrap64 (x7_1 + 1))) = some (r1, r2, r3) := by rw [if_pos rfl] at H; exact H
                      clear H
                      have H := H1
                      clear H1
                      have H' := Aside0.mk H
                      clear H
                      have p13 : 0 ≤ (x7_1 : Int) := oa
                      have q13 : x7_1 < (a0.size : Int) := oa
                      have hx13 := bt_at a0 x7_1
                      replace p13 := eq_true p13
                      replace q13 := eq_true q13
                      go_wp2_with (first | (go_at_call 27; (with_reducible refine (spec_l10Letter.calls (bt a0 x7_1) true _ A14.out).mono ?_); rintro e w' ⟨rfl, ⟨nd, rfl⟩⟩))
                      go_roundg k1
                      case measure => have := HK1.out; omega
                      case rel => exact ⟨(wrap64 (x7_1 + 1)), (by first | rfl | (simp; done) | (simp [*]; done) | (simp [isE0, isE1]; done)), H', ⟨by have := HK1.out; omega⟩, ⟨by (with_reducible repeat (first | refine blk_drewN ?_ _ | refine blk_drew ?_ | refine blk_alloc ?_ _)); exact BK259.out⟩, ⟨by repeat (first | (with_reducible first | exact HB.out | apply below_alloc | apply pw_below_drewN | apply below_drew1 | refine below_set ?_ GE259.out) | exact HB.out)⟩⟩
                    · replace c15 := Bool.eq_false_iff.mpr c15
                      subst c15
                      have H1 : ((spec_l10Figure.f (bt a0 x7_1)).bind fun t262 => (if t262 = true then (spec_l10One.l0 k1 a0 a1 (wrap64 (x7_1 + 1))) else (spec_l10One.j1 k1 a0 a1 x7_1))) = some (r1, r2, r3) := by rw [if_neg (show ¬ (false = true) by decide)] at H; exact H
                      clear H
                      have H := H1
                      clear H1
                      replace H := Option.bind_eq_some_iff.mp H
                      obtain ⟨t262, A170, H⟩ := H
                      replace H : (if t262 = true then (spec_l10One.l0 k1 a0 a1 (wrap64 (x7_1 + 1))) else (spec_l10One.j1 k1 a0 a1 x7_1)) = some (r1, r2, r3) := H
                      have A17 := Aside0.mk A170
                      clear A170
                      by_cases c18 : t262 = true
                      · subst c18
                        have H1 : (spec_l10One.l0 k1 a0 a1 (wrap64 (x7_1 + 1))) = some (r1, r2, r3) := by rw [if_pos rfl] at H; exact H
                        clear H
                        have H := H1
                        clear H1
                        have H' := Aside0.mk H
                        clear H
                        have p13 : 0 ≤ (x7_1 : Int) := oa
                        have q13 : x7_1 < (a0.size : Int) := oa
                        have hx13 := bt_at a0 x7_1
                        replace p13 := eq_true p13
                        replace q13 := eq_true q13
                        go_wp2_with (first | (go_at_call 27; (with_reducible refine (spec_l10Letter.calls (bt a0 x7_1) false _ A14.out).mono ?_); rintro e w' ⟨rfl, ⟨nd, rfl⟩⟩; have p16 : 0 ≤ (x7_1 : Int) := oa; have q16 : x7_1 < (a0.size : Int) := oa; have hx16 := bt_at a0 x7_1; replace p16 := eq_true p16; replace q16 := eq_true q16) | (go_at_call 28; (with_reducible refine (spec_l10Figure.calls (bt a0 x7_1) true _ A17.out).mono ?_); rintro e w' ⟨rfl, ⟨nd, rfl⟩⟩))
                        go_roundg k1
                        case measure => have := HK1.out; omega
                        case rel => exact ⟨(wrap64 (x7_1 + 1)), (by first | rfl | (simp; done) | (simp [*]; done) | (simp [isE0, isE1]; done)), H', ⟨by have := HK1.out; omega⟩, ⟨by (with_reducible repeat (first | refine blk_drewN ?_ _ | refine blk_drew ?_ | refine blk_alloc ?_ _)); exact BK259.out⟩, ⟨by repeat (first | (with_reducible first | exact HB.out | apply below_alloc | apply pw_below_drewN | apply below_drew1 | refine below_set ?_ GE259.out) | exact HB.out)⟩⟩
                      · replace c18 := Bool.eq_false_iff.mpr c18
                        subst c18
                        have H1 : (spec_l10One.j1 k1 a0 a1 x7_1) = some (r1, r2, r3) := by rw [if_neg (show ¬ (false = true) by decide)] at H; exact H
                        clear H
                        have H := H1
                        clear H1
                        have H' := Aside0.mk H
                        clear H
                        have p13 : 0 ≤ (x7_1 : Int) := oa
                        have q13 : x7_1 < (a0.size : Int) := oa
                        have hx13 := bt_at a0 x7_1
                        replace p13 := eq_true p13
                        replace q13 := eq_true q13
                        go_wp2_with (first | (go_at_call 27; (with_reducible refine (spec_l10Letter.calls (bt a0 x7_1) false _ A14.out).mono ?_); rintro e w' ⟨rfl, ⟨nd, rfl⟩⟩; have p16 : 0 ≤ (x7_1 : Int) := oa; have q16 : x7_1 < (a0.size : Int) := oa; have hx16 := bt_at a0 x7_1; replace p16 := eq_true p16; replace q16 := eq_true q16) | (go_at_call 28; (with_reducible refine (spec_l10Figure.calls (bt a0 x7_1) false _ A17.out).mono ?_); rintro e w' ⟨rfl, ⟨nd, rfl⟩⟩))
                        go_meet
                        case rel => exact ⟨_, (x7_1), (by first | rfl | (simp; done) | (simp [*]; done) | (simp [isE0, isE1]; done)), H', ⟨by have := HK1.out; first | omega | exact Nat.le_refl _⟩, ⟨by (with_reducible repeat (first | refine blk_drewN ?_ _ | refine blk_drew ?_ | refine blk_alloc ?_ _)); exact BK259.out⟩, ⟨by repeat (first | (with_reducible first | exact HB.out | apply below_alloc | apply pw_below_drewN | apply below_drew1 | refine below_set ?_ GE259.out) | exact HB.out)⟩⟩
                  · rw [if_neg c12] at H
                    exact absurd H (by simp)
                · rw [if_neg c11] at H
                  have c11b0 : decide (x7_1 < (a0.size : Int)) = false := decide_eq_false c11
                  clear c11
                  (first | rw [c11b0] | (simp only [i64_w, i32_w]; rw [c11b0]) | skip)
                  have H' := Aside0.mk H
                  clear H
                  go_wp2
                  go_meet
                  case rel => exact ⟨_, (x7_1), (by first | rfl | (simp; done) | (simp [*]; done) | (simp [isE0, isE1]; done)), H', ⟨by have := HK1.out; first | omega | exact Nat.le_refl _⟩, ⟨by (with_reducible repeat (first | refine blk_drewN ?_ _ | refine blk_drew ?_ | refine blk_alloc ?_ _)); exact BK259.out⟩, ⟨by repeat (first | (with_reducible first | exact HB.out | apply below_alloc | apply pw_below_drewN | apply below_drew1 | refine below_set ?_ GE259.out) | exact HB.out)⟩⟩
          case rest =>
            clear HC10
            try clear c1
            try clear p1
            try clear q1
            try clear hx1
            try clear c2
            try clear p2
            try clear c3
            try clear c3b0
            try clear c4
            try clear c4b0
            try clear p5
            try clear q5
            try clear hx5
            try clear p6
            try clear c9
            try clear c11
            try clear c11b0
            try clear c12
            try clear c12b0
            try clear p13
            try clear q13
            try clear hx13
            try clear c15
            try clear c16
            try clear p16
            try clear q16
            try clear hx16
            try clear c18
            try clear p13
            try clear p16
            try clear p2
            try clear p5
            try clear p6
            try clear q13
            try clear q16
            try clear q5
            obtain ⟨kq, x7_9, rfl, HA, HJ9, BK259, HB⟩ := hcut
            cases kq with
            | zero => exact absurd HA.out (by simp [spec_l10One.j1])
            | succ kj9 =>
              have H := HA.out
              clear HA
              simp only [spec_l10One.j1] at H
              by_cases c19 : (wrap64 (x7_9 - a1)) > 6
              · rw [if_pos c19] at H
                have c19b0 : decide (6 < (wrap64 (x7_9 - a1))) = true := decide_eq_true c19
                clear c19
                simp only [Option.some.injEq, Prod.mk.injEq] at H
                obtain ⟨rfl, rfl, rfl⟩ := H
                obtain ⟨hcz20_0, hcz20_1, hfz20_0, hfz20_1⟩ := bc2 BK259.out
                go_wp2
                refine bodyPost_ret (results_ct rfl _ _ gb259 29 #[.int .i64 0, .string (⟨#[]⟩ : ByteArray)] (0, 0) _ rfl bx Try.underlying29 rfl (by kernel_rfl)) rfl ?_
                exact ⟨by first | rfl | (simp [errW_none, errW_some] <;> rfl) | (simp [*, errW_none, errW_some] <;> rfl), by repeat (first | (with_reducible first | exact HB.out | apply below_alloc | apply pw_below_drewN | apply below_drew1 | refine below_set ?_ GE259.out) | exact HB.out)⟩
              · rw [if_neg c19] at H
                have c19b0 : decide (6 < (wrap64 (x7_9 - a1))) = false := decide_eq_false c19
                clear c19
                by_cases c21 : x7_9 < (a0.size : Int)
                · rw [if_pos c21] at H
                  have c21b0 : decide (x7_9 < (a0.size : Int)) = true := decide_eq_true c21
                  clear c21
                  by_cases c22 : 0 ≤ x7_9
                  · rw [if_pos c22] at H
                    have c22b0 : decide (0 ≤ x7_9) = true := decide_eq_true c22
                    clear c22
                    by_cases c24 : (bt a0 x7_9) = 40
                    · rw [if_pos c24] at H
                      have c24b0 : ((bt a0 x7_9) == 40) = true := beq_iff_eq.mpr c24
                      have c24b1 : ((bt a0 x7_9) != 40) = false := bne_eq_false_iff_eq.mpr c24
                      clear c24
                      by_cases c25 : 0 ≤ a1
                      · rw [if_pos c25] at H
                        have c25b0 := eq_true c25
                        have c25b1 : decide (0 ≤ a1) = true := decide_eq_true c25
                        clear c25
                        by_cases c26 : a1 ≤ x7_9
                        · rw [if_pos c26] at H
                          have c26b0 := eq_true c26
                          have c26b1 : decide (a1 ≤ x7_9) = true := decide_eq_true c26
                          clear c26
                          by_cases c27 : x7_9 ≤ (a0.size : Int)
                          · rw [if_pos c27] at H
                            have c27b0 := eq_true c27
                            have c27b1 : decide (x7_9 ≤ (a0.size : Int)) = true := decide_eq_true c27
                            clear c27
                            simp only [Option.some.injEq, Prod.mk.injEq] at H
                            obtain ⟨rfl, rfl, rfl⟩ := H
                            have p23 : 0 ≤ (x7_9 : Int) := oa
                            have q23 : x7_9 < (a0.size : Int) := oa
                            have hx23 := bt_at a0 x7_9
                            replace p23 := eq_true p23
                            replace q23 := eq_true q23
                            obtain ⟨hcz28_0, hcz28_1, hfz28_0, hfz28_1⟩ := bc2 BK259.out
                            go_wp2
                            refine bodyPost_ret (results_ct rfl _ _ gb259 29 #[.int .i64 6, .string (a0.extract (a1 : Int).toNat (x7_9 : Int).toNat)] (0, 0) _ rfl bx Try.underlying29 rfl (by kernel_rfl)) rfl ?_
                            exact ⟨by first | rfl | (simp [errW_none, errW_some] <;> rfl) | (simp [*, errW_none, errW_some] <;> rfl), by repeat (first | (with_reducible first | exact HB.out | apply below_alloc | apply pw_below_drewN | apply below_drew1 | refine below_set ?_ GE259.out) | exact HB.out)⟩
                          · rw [if_neg c27] at H
                            exact absurd H (by simp)
                        · rw [if_neg c26] at H
                          exact absurd H (by simp)
                      · rw [if_neg c25] at H
                        exact absurd H (by simp)
                    · rw [if_neg c24] at H
                      have c24b0 : ((bt a0 x7_9) == 40) = false := beq_eq_false_iff_ne.mpr c24
                      have c24b1 : ((bt a0 x7_9) != 40) = true := bne_iff_ne.mpr c24
                      by_cases c29 : 0 ≤ a1
                      · rw [if_pos c29] at H
                        have c29b0 := eq_true c29
                        have c29b1 : decide (0 ≤ a1) = true := decide_eq_true c29
                        clear c29
                        by_cases c30 : a1 ≤ x7_9
                        · rw [if_pos c30] at H
                          have c30b0 := eq_true c30
                          have c30b1 : decide (a1 ≤ x7_9) = true := decide_eq_true c30
                          clear c30
                          by_cases c31 : x7_9 ≤ (a0.size : Int)
                          · rw [if_pos c31] at H
                            have c31b0 := eq_true c31
                            have c31b1 : decide (x7_9 ≤ (a0.size : Int)) = true := decide_eq_true c31
                            clear c31
                            simp only [Option.some.injEq, Prod.mk.injEq] at H
                            obtain ⟨rfl, rfl, rfl⟩ := H
                            have p23 : 0 ≤ (x7_9 : Int) := oa
                            have q23 : x7_9 < (a0.size : Int) := oa
                            have hx23 := bt_at a0 x7_9
                            replace p23 := eq_true p23
                            replace q23 := eq_true q23
                            obtain ⟨hcz32_0, hcz32_1, hfz32_0, hfz32_1⟩ := bc2 BK259.out
                            go_wp2
                            refine bodyPost_ret (results_ct rfl _ _ gb259 29 #[.int .i64 1, .string (a0.extract (a1 : Int).toNat (x7_9 : Int).toNat)] (0, 0) _ rfl bx Try.underlying29 rfl (by kernel_rfl)) rfl ?_
                            exact ⟨by first | rfl | (simp [errW_none, errW_some] <;> rfl) | (simp [*, errW_none, errW_some] <;> rfl), by repeat (first | (with_reducible first | exact HB.out | apply below_alloc | apply pw_below_drewN | apply below_drew1 | refine below_set ?_ GE259.out) | exact HB.out)⟩
                          · rw [if_neg c31] at H
                            exact absurd H (by simp)
                        · rw [if_neg c30] at H
                          exact absurd H (by simp)
                      · rw [if_neg c29] at H
                        exact absurd H (by simp)
                  · rw [if_neg c22] at H
                    exact absurd H (by simp)
                · rw [if_neg c21] at H
                  have c21b0 : decide (x7_9 < (a0.size : Int)) = false := decide_eq_false c21
                  clear c21
                  by_cases c33 : 0 ≤ a1
                  · rw [if_pos c33] at H
                    have c33b0 := eq_true c33
                    have c33b1 : decide (0 ≤ a1) = true := decide_eq_true c33
                    clear c33
                    by_cases c34 : a1 ≤ x7_9
                    · rw [if_pos c34] at H
                      have c34b0 := eq_true c34
                      have c34b1 : decide (a1 ≤ x7_9) = true := decide_eq_true c34
                      clear c34
                      by_cases c35 : x7_9 ≤ (a0.size : Int)
                      · rw [if_pos c35] at H
                        have c35b0 := eq_true c35
                        have c35b1 : decide (x7_9 ≤ (a0.size : Int)) = true := decide_eq_true c35
                        clear c35
                        simp only [Option.some.injEq, Prod.mk.injEq] at H
                        obtain ⟨rfl, rfl, rfl⟩ := H
                        obtain ⟨hcz36_0, hcz36_1, hfz36_0, hfz36_1⟩ := bc2 BK259.out
                        go_wp2
                        refine bodyPost_ret (results_ct rfl _ _ gb259 29 #[.int .i64 1, .string (a0.extract (a1 : Int).toNat (x7_9 : Int).toNat)] (0, 0) _ rfl bx Try.underlying29 rfl (by kernel_rfl)) rfl ?_
                        exact ⟨by first | rfl | (simp [errW_none, errW_some] <;> rfl) | (simp [*, errW_none, errW_some] <;> rfl), by repeat (first | (with_reducible first | exact HB.out | apply below_alloc | apply pw_below_drewN | apply below_drew1 | refine below_set ?_ GE259.out) | exact HB.out)⟩
                      · rw [if_neg c35] at H
                        exact absurd H (by simp)
                    · rw [if_neg c34] at H
                      exact absurd H (by simp)
                  · rw [if_neg c33] at H
                    exact absurd H (by simp)
        · replace c9 := Bool.eq_false_iff.mpr c9
          subst c9
          have H1 : ((spec_l10Figure.f (bt a0 a1)).bind fun t263 => (if t263 = true then (spec_l10One.l1 k a0 a1 (wrap64 (a1 + 1))) else (if (bt a0 a1) = 34 then (spec_l10One.l2 k a0 a1 (wrap64 (a1 + 1))) else (if (bt a0 a1) = 91 then (spec_l10One.l3 k a0 a1 (wrap64 (a1 + 1))) else (if (bt a0 a1) = 45 then (if (wrap64 (a1 + 1)) < (a0.size : Int) then (if 0 ≤ (wrap64 (a1 + 1)) then (if (bt a0 (wrap64 (a1 + 1))) = 62 then (some (5, (⟨#[45, 62]⟩ : ByteArray), wrap64 (a1 + 2))) else (spec_l10One.j5 k a0 a1 (bt a0 a1))) else (none)) else (spec_l10One.j5 k a0 a1 (bt a0 a1))) else (spec_l10One.j5 k a0 a1 (bt a0 a1))))))) = some (r1, r2, r3) := by rw [if_neg (show ¬ (false = true) by decide)] at H; exact H
          clear H
          have H := H1
          clear H1
          replace H := Option.bind_eq_some_iff.mp H
          obtain ⟨t263, A370, H⟩ := H
          replace H : (if t263 = true then (spec_l10One.l1 k a0 a1 (wrap64 (a1 + 1))) else (if (bt a0 a1) = 34 then (spec_l10One.l2 k a0 a1 (wrap64 (a1 + 1))) else (if (bt a0 a1) = 91 then (spec_l10One.l3 k a0 a1 (wrap64 (a1 + 1))) else (if (bt a0 a1) = 45 then (if (wrap64 (a1 + 1)) < (a0.size : Int) then (if 0 ≤ (wrap64 (a1 + 1)) then (if (bt a0 (wrap64 (a1 + 1))) = 62 then (some (5, (⟨#[45, 62]⟩ : ByteArray), wrap64 (a1 + 2))) else (spec_l10One.j5 k a0 a1 (bt a0 a1))) else (none)) else (spec_l10One.j5 k a0 a1 (bt a0 a1))) else (spec_l10One.j5 k a0 a1 (bt a0 a1)))))) = some (r1, r2, r3) := H
          have A37 := Aside0.mk A370
          clear A370
          by_cases c38 : t263 = true
          · subst c38
            have H1 : (spec_l10One.l1 k a0 a1 (wrap64 (a1 + 1))) = some (r1, r2, r3) := by rw [if_pos rfl] at H; exact H
            clear H
            have H := H1
            clear H1
            have H' := Aside0.mk H
            clear H
            go_wp2_with (first | ((with_reducible refine gate_callee (f := 27) rfl ?_); refine goesL_ (some 17) rfl rfl Try.func27 (by kernel_rfl) rfl #[.int .u8 (bt a0 a1)] rfl (by (try simp only [List.map_toArray, List.map_cons, List.map_nil]); first | done | rfl | (simp only [List.length_drop, List.length_take]; rfl)) ?_; (with_reducible refine (spec_l10Letter.calls (bt a0 a1) false _ A8.out).mono ?_); rintro e w' ⟨rfl, ⟨nd, rfl⟩⟩; refine ⟨_, rfl, ?_⟩) | ((with_reducible refine gate_callee (f := 28) rfl ?_); refine goesL_ (some 66) rfl rfl Try.func28 (by kernel_rfl) rfl #[.int .u8 (bt a0 a1)] rfl (by (try simp only [List.map_toArray, List.map_cons, List.map_nil]); first | done | rfl | (simp only [List.length_drop, List.length_take]; rfl)) ?_; (with_reducible refine (spec_l10Figure.calls (bt a0 a1) true _ A37.out).mono ?_); rintro e w' ⟨rfl, ⟨nd, rfl⟩⟩; refine ⟨_, rfl, ?_⟩))
            go_loopg [7] k (fun kq v7 w' => ∃ (x7_1 : Int), v7 = .int .i64 x7_1 ∧ Aside0 (spec_l10One.l1 kq a0 a1 x7_1 = some (r1, r2, r3)) ∧ Aside0 (kq ≤ k) ∧ Aside0 (w'.heap[gb259]? = some (.cells #[.int .i64 0, .string (⟨#[]⟩ : ByteArray)] 29 (0, 0))) ∧ Aside0 (Below w.heap.size w w'))
            case atStart => exact ⟨(wrap64 (a1 + 1)), (by first | rfl | (simp; done) | (simp [*]; done) | (simp [isE0, isE1]; done)), H', ⟨Nat.le_refl _⟩, ⟨by (with_reducible repeat (first | refine blk_drewN ?_ _ | refine blk_drew ?_ | refine blk_alloc ?_ _)); exact BK259.out⟩, ⟨by repeat (first | (with_reducible first | exact HB.out | apply below_alloc | apply pw_below_drewN | apply below_drew1 | refine below_set ?_ GE259.out) | exact HB.out)⟩⟩
            case round =>
              clear H'
              try clear c1
              try clear p1
              try clear q1
              try clear hx1
              try clear c2
              try clear p2
              try clear q2
              try clear hx2
              try clear c3
              try clear c3b0
              try clear c4
              try clear c4b0
              try clear p5
              try clear q5
              try clear hx5
              try clear p6
              try clear c9
              try clear c11
              try clear c11b0
              try clear c12
              try clear c12b0
              try clear p13
              try clear q13
              try clear hx13
              try clear c15
              try clear c16
              try clear p16
              try clear q16
              try clear hx16
              try clear c18
              try clear c19
              try clear c19b0
              try clear c21
              try clear c21b0
              try clear c22
              try clear c22b0
              try clear p23
              try clear q23
              try clear hx23
              try clear c24
              try clear c24b0
              try clear c24b1
              try clear c25
              try clear c25b0
              try clear c25b1
              try clear c26
              try clear c26b0
              try clear c26b1
              try clear c27
              try clear c27b0
              try clear c27b1
              try clear c28
              try clear c29
              try clear c29b0
              try clear c29b1
              try clear c30
              try clear c30b0
              try clear c30b1
              try clear c31
              try clear c31b0
              try clear c31b1
              try clear c33
              try clear c33b0
              try clear c33b1
              try clear c34
              try clear c34b0
              try clear c34b1
              try clear c35
              try clear c35b0
              try clear c35b1
              try clear c38
              try clear hcz20_0
              try clear hcz20_1
              try clear hcz28_0
              try clear hcz28_1
              try clear hcz32_0
              try clear hcz32_1
              try clear hcz36_0
              try clear hcz36_1
              try clear hfz20_0
              try clear hfz20_1
              try clear hfz28_0
              try clear hfz28_1
              try clear hfz32_0
              try clear hfz32_1
              try clear hfz36_0
              try clear hfz36_1
              try clear p1
              try clear p13
              try clear p16
              try clear p2
              try clear p23
              try clear p5
              try clear p6
              try clear q1
              try clear q13
              try clear q16
              try clear q23
              try clear q5
              obtain ⟨x7_1, rfl, HA, HK1, BK259, HB⟩ := hrel
              cases gk with
              | zero => exact absurd HA.out (by simp [spec_l10One.l1])
              | succ k1 =>
                have H := HA.out
                clear HA
                simp only [spec_l10One.l1] at H
                by_cases c39 : x7_1 < (a0.size : Int)
                · rw [if_pos c39] at H
                  have c39b0 : decide (x7_1 < (a0.size : Int)) = true := decide_eq_true c39
                  clear c39
                  by_cases c40 : 0 ≤ x7_1
                  · rw [if_pos c40] at H
                    have c40b0 : decide (0 ≤ x7_1) = true := decide_eq_true c40
                    clear c40
                    replace H := Option.bind_eq_some_iff.mp H
                    obtain ⟨t264, A420, H⟩ := H
                    replace H : (if t264 = true then (spec_l10One.l1 k1 a0 a1 (wrap64 (x7_1 + 1))) else (if (wrap64 (x7_1 - a1)) > 2 then (some (0, (⟨#[]⟩ : ByteArray), 0)) else (if 0 ≤ a1 then (if a1 ≤ x7_1 then (if x7_1 ≤ (a0.size : Int) then (some (2, a0.extract (a1 : Int).toNat (x7_1 : Int).toNat, x7_1)) else (none)) else (none)) else (none)))) = some (r1, r2, r3) := H
                    have A42 := Aside0.mk A420
                    clear A420
                    by_cases c43 : t264 = true
                    · subst c43
                      have H1 : (spec_l10One.l1 k1 a0 a1 (wrap64 (x7_1 + 1))) = some (r1, r2, r3) := by rw [if_pos rfl] at H; exact H
                      clear H
                      have H := H1
                      clear H1
                      have H' := Aside0.mk H
                      clear H
                      have p41 : 0 ≤ (x7_1 : Int) := oa
                      have q41 : x7_1 < (a0.size : Int) := oa
                      have hx41 := bt_at a0 x7_1
                      replace p41 := eq_true p41
                      replace q41 := eq_true q41
                      go_wp2_with (first | (go_at_call 28; (with_reducible refine (spec_l10Figure.calls (bt a0 x7_1) true _ A42.out).mono ?_); rintro e w' ⟨rfl, ⟨nd, rfl⟩⟩))
                      go_roundg k1
                      case measure => have := HK1.out; omega
                      case rel => exact ⟨(wrap64 (x7_1 + 1)), (by first | rfl | (simp; done) | (simp [*]; done) | (simp [isE0, isE1]; done)), H', ⟨by have := HK1.out; omega⟩, ⟨by (with_reducible repeat (first | refine blk_drewN ?_ _ | refine blk_drew ?_ | refine blk_alloc ?_ _)); exact BK259.out⟩, ⟨by repeat (first | (with_reducible first | exact HB.out | apply below_alloc | apply pw_below_drewN | apply below_drew1 | refine below_set ?_ GE259.out) | exact HB.out)⟩⟩
                    · replace c43 := Bool.eq_false_iff.mpr c43
                      subst c43
                      have H1 : (if (wrap64 (x7_1 - a1)) > 2 then (some (0, (⟨#[]⟩ : ByteArray), 0)) else (if 0 ≤ a1 then (if a1 ≤ x7_1 then (if x7_1 ≤ (a0.size : Int) then (some (2, a0.extract (a1 : Int).toNat (x7_1 : Int).toNat, x7_1)) else (none)) else (none)) else (none))) = some (r1, r2, r3) := by rw [if_neg (show ¬ (false = true) by decide)] at H; exact H
                      clear H
                      have H := H1
                      clear H1
                      by_cases c44 : (wrap64 (x7_1 - a1)) > 2
                      · rw [if_pos c44] at H
                        have c44b0 : decide (2 < (wrap64 (x7_1 - a1))) = true := decide_eq_true c44
                        clear c44
                        simp only [Option.some.injEq, Prod.mk.injEq] at H
                        obtain ⟨rfl, rfl, rfl⟩ := H
                        have p41 : 0 ≤ (x7_1 : Int) := oa
                        have q41 : x7_1 < (a0.size : Int) := oa
                        have hx41 := bt_at a0 x7_1
                        replace p41 := eq_true p41
                        replace q41 := eq_true q41
                        go_wp2_with (first | (go_at_call 28; (with_reducible refine (spec_l10Figure.calls (bt a0 x7_1) false _ A42.out).mono ?_); rintro e w' ⟨rfl, ⟨nd, rfl⟩⟩; (try (rw [drewN_self wr]; generalize hq_ : World.drewN wr _ = wr; have n0_ : Aside0 (wr.heap[gb259]? = some (.cells #[.int .i64 0, .string (⟨#[]⟩ : ByteArray)] 29 (0, 0))) := ⟨by rw [← hq_]; exact bx⟩; have n1_ : Aside0 (Below w.heap.size w wr) := ⟨by rw [← hq_]; exact bw⟩; clear BK259 HB hq_; have BK259 := n0_; have HB := n1_; clear n0_ n1_)); obtain ⟨hcz45_0, hcz45_1, hfz45_0, hfz45_1⟩ := bc2 BK259.out))
                        refine bodyPost_ret (results_ct rfl _ _ gb259 29 #[.int .i64 0, .string (⟨#[]⟩ : ByteArray)] (0, 0) _ rfl bx Try.underlying29 rfl (by kernel_rfl)) rfl ?_
                        exact ⟨by first | rfl | (simp [errW_none, errW_some] <;> rfl) | (simp [*, errW_none, errW_some] <;> rfl), by repeat (first | (with_reducible first | exact HB.out | apply below_alloc | apply pw_below_drewN | apply below_drew1 | refine below_set ?_ GE259.out) | exact HB.out)⟩
                      · rw [if_neg c44] at H
                        have c44b0 : decide (2 < (wrap64 (x7_1 - a1))) = false := decide_eq_false c44
                        clear c44
                        by_cases c46 : 0 ≤ a1
                        · rw [if_pos c46] at H
                          have c46b0 := eq_true c46
                          have c46b1 : decide (0 ≤ a1) = true := decide_eq_true c46
                          clear c46
                          by_cases c47 : a1 ≤ x7_1
                          · rw [if_pos c47] at H
                            have c47b0 := eq_true c47
                            have c47b1 : decide (a1 ≤ x7_1) = true := decide_eq_true c47
                            clear c47
                            by_cases c48 : x7_1 ≤ (a0.size : Int)
                            · rw [if_pos c48] at H
                              have c48b0 := eq_true c48
                              have c48b1 : decide (x7_1 ≤ (a0.size : Int)) = true := decide_eq_true c48
                              clear c48
                              simp only [Option.some.injEq, Prod.mk.injEq] at H
                              obtain ⟨rfl, rfl, rfl⟩ := H
                              have p41 : 0 ≤ (x7_1 : Int) := oa
                              have q41 : x7_1 < (a0.size : Int) := oa
                              have hx41 := bt_at a0 x7_1
                              replace p41 := eq_true p41
                              replace q41 := eq_true q41
                              go_wp2_with (first | (go_at_call 28; (with_reducible refine (spec_l10Figure.calls (bt a0 x7_1) false _ A42.out).mono ?_); rintro e w' ⟨rfl, ⟨nd, rfl⟩⟩; (try (rw [drewN_self wr]; generalize hq_ : World.drewN wr _ = wr; have n0_ : Aside0 (wr.heap[gb259]? = some (.cells #[.int .i64 0, .string (⟨#[]⟩ : ByteArray)] 29 (0, 0))) := ⟨by rw [← hq_]; exact bx⟩; have n1_ : Aside0 (Below w.heap.size w wr) := ⟨by rw [← hq_]; exact bw⟩; clear BK259 HB hq_; have BK259 := n0_; have HB := n1_; clear n0_ n1_)); obtain ⟨hcz49_0, hcz49_1, hfz49_0, hfz49_1⟩ := bc2 BK259.out))
                              refine bodyPost_ret (results_ct rfl _ _ gb259 29 #[.int .i64 2, .string (a0.extract (a1 : Int).toNat (x7_1 : Int).toNat)] (0, 0) _ rfl bx Try.underlying29 rfl (by kernel_rfl)) rfl ?_
                              exact ⟨by first | rfl | (simp [errW_none, errW_some] <;> rfl) | (simp [*, errW_none, errW_some] <;> rfl), by repeat (first | (with_reducible first | exact HB.out | apply below_alloc | apply pw_below_drewN | apply below_drew1 | refine below_set ?_ GE259.out) | exact HB.out)⟩
                            · rw [if_neg c48] at H
                              exact absurd H (by simp)
                          · rw [if_neg c47] at H
                            exact absurd H (by simp)
                        · rw [if_neg c46] at H
                          exact absurd H (by simp)
                  · rw [if_neg c40] at H
                    exact absurd H (by simp)
                · rw [if_neg c39] at H
                  have c39b0 : decide (x7_1 < (a0.size : Int)) = false := decide_eq_false c39
                  clear c39
                  by_cases c50 : (wrap64 (x7_1 - a1)) > 2
                  · rw [if_pos c50] at H
                    have c50b0 : decide (2 < (wrap64 (x7_1 - a1))) = true := decide_eq_true c50
                    clear c50
                    simp only [Option.some.injEq, Prod.mk.injEq] at H
                    obtain ⟨rfl, rfl, rfl⟩ := H
                    obtain ⟨hcz51_0, hcz51_1, hfz51_0, hfz51_1⟩ := bc2 BK259.out
                    go_wp2
                    refine bodyPost_ret (results_ct rfl _ _ gb259 29 #[.int .i64 0, .string (⟨#[]⟩ : ByteArray)] (0, 0) _ rfl bx Try.underlying29 rfl (by kernel_rfl)) rfl ?_
                    exact ⟨by first | rfl | (simp [errW_none, errW_some] <;> rfl) | (simp [*, errW_none, errW_some] <;> rfl), by repeat (first | (with_reducible first | exact HB.out | apply below_alloc | apply pw_below_drewN | apply below_drew1 | refine below_set ?_ GE259.out) | exact HB.out)⟩
                  · rw [if_neg c50] at H
                    have c50b0 : decide (2 < (wrap64 (x7_1 - a1))) = false := decide_eq_false c50
                    clear c50
                    by_cases c52 : 0 ≤ a1
                    · rw [if_pos c52] at H
                      have c52b0 := eq_true c52
                      have c52b1 : decide (0 ≤ a1) = true := decide_eq_true c52
                      clear c52
                      by_cases c53 : a1 ≤ x7_1
                      · rw [if_pos c53] at H
                        have c53b0 := eq_true c53
                        have c53b1 : decide (a1 ≤ x7_1) = true := decide_eq_true c53
                        clear c53
                        by_cases c54 : x7_1 ≤ (a0.size : Int)
                        · rw [if_pos c54] at H
                          have c54b0 := eq_true c54
                          have c54b1 : decide (x7_1 ≤ (a0.size : Int)) = true := decide_eq_true c54
                          clear c54
                          simp only [Option.some.injEq, Prod.mk.injEq] at H
                          obtain ⟨rfl, rfl, rfl⟩ := H
                          obtain ⟨hcz55_0, hcz55_1, hfz55_0, hfz55_1⟩ := bc2 BK259.out
                          go_wp2
                          refine bodyPost_ret (results_ct rfl _ _ gb259 29 #[.int .i64 2, .string (a0.extract (a1 : Int).toNat (x7_1 : Int).toNat)] (0, 0) _ rfl bx Try.underlying29 rfl (by kernel_rfl)) rfl ?_
                          exact ⟨by first | rfl | (simp [errW_none, errW_some] <;> rfl) | (simp [*, errW_none, errW_some] <;> rfl), by repeat (first | (with_reducible first | exact HB.out | apply below_alloc | apply pw_below_drewN | apply below_drew1 | refine below_set ?_ GE259.out) | exact HB.out)⟩
                        · rw [if_neg c54] at H
                          exact absurd H (by simp)
                      · rw [if_neg c53] at H
                        exact absurd H (by simp)
                    · rw [if_neg c52] at H
                      exact absurd H (by simp)
          · replace c38 := Bool.eq_false_iff.mpr c38
            subst c38
            have H1 : (if (bt a0 a1) = 34 then (spec_l10One.l2 k a0 a1 (wrap64 (a1 + 1))) else (if (bt a0 a1) = 91 then (spec_l10One.l3 k a0 a1 (wrap64 (a1 + 1))) else (if (bt a0 a1) = 45 then (if (wrap64 (a1 + 1)) < (a0.size : Int) then (if 0 ≤ (wrap64 (a1 + 1)) then (if (bt a0 (wrap64 (a1 + 1))) = 62 then (some (5, (⟨#[45, 62]⟩ : ByteArray), wrap64 (a1 + 2))) else (spec_l10One.j5 k a0 a1 (bt a0 a1))) else (none)) else (spec_l10One.j5 k a0 a1 (bt a0 a1))) else (spec_l10One.j5 k a0 a1 (bt a0 a1))))) = some (r1, r2, r3) := by rw [if_neg (show ¬ (false = true) by decide)] at H; exact H
            clear H
            have H := H1
            clear H1
            by_cases c56 : (bt a0 a1) = 34
            · rw [if_pos c56] at H
              have c56b0 : ((bt a0 a1) == 34) = true := beq_iff_eq.mpr c56
              have c56b1 : ((bt a0 a1) != 34) = false := bne_eq_false_iff_eq.mpr c56
              clear c56
              have H' := Aside0.mk H
              clear H
              go_wp2_with (first | ((with_reducible refine gate_callee (f := 27) rfl ?_); refine goesL_ (some 17) rfl rfl Try.func27 (by kernel_rfl) rfl #[.int .u8 (bt a0 a1)] rfl (by (try simp only [List.map_toArray, List.map_cons, List.map_nil]); first | done | rfl | (simp only [List.length_drop, List.length_take]; rfl)) ?_; (with_reducible refine (spec_l10Letter.calls (bt a0 a1) false _ A8.out).mono ?_); rintro e w' ⟨rfl, ⟨nd, rfl⟩⟩; refine ⟨_, rfl, ?_⟩) | ((with_reducible refine gate_callee (f := 28) rfl ?_); refine goesL_ (some 66) rfl rfl Try.func28 (by kernel_rfl) rfl #[.int .u8 (bt a0 a1)] rfl (by (try simp only [List.map_toArray, List.map_cons, List.map_nil]); first | done | rfl | (simp only [List.length_drop, List.length_take]; rfl)) ?_; (with_reducible refine (spec_l10Figure.calls (bt a0 a1) false _ A37.out).mono ?_); rintro e w' ⟨rfl, ⟨nd, rfl⟩⟩; refine ⟨_, rfl, ?_⟩))
              go_loopg [7] k (fun kq v7 w' => ∃ (x7_1 : Int), v7 = .int .i64 x7_1 ∧ Aside0 (spec_l10One.l2 kq a0 a1 x7_1 = some (r1, r2, r3)) ∧ Aside0 (kq ≤ k) ∧ Aside0 (w'.heap[gb259]? = some (.cells #[.int .i64 0, .string (⟨#[]⟩ : ByteArray)] 29 (0, 0))) ∧ Aside0 (Below w.heap.size w w'))
              case atStart => exact ⟨(wrap64 (a1 + 1)), (by first | rfl | (simp; done) | (simp [*]; done) | (simp [isE0, isE1]; done)), H', ⟨Nat.le_refl _⟩, ⟨by (with_reducible repeat (first | refine blk_drewN ?_ _ | refine blk_drew ?_ | refine blk_alloc ?_ _)); exact BK259.out⟩, ⟨by repeat (first | (with_reducible first | exact HB.out | apply below_alloc | apply pw_below_drewN | apply below_drew1 | refine below_set ?_ GE259.out) | exact HB.out)⟩⟩
              case round =>
                clear H'
                try clear c1
                try clear p1
                try clear q1
                try clear hx1
                try clear c2
                try clear p2
                try clear q2
                try clear hx2
                try clear c3
                try clear c3b0
                try clear c4
                try clear c4b0
                try clear p4
                try clear q4
                try clear hx4
                try clear c5
                try clear p5
                try clear q5
                try clear hx5
                try clear p6
                try clear c9
                try clear c11
                try clear c11b0
                try clear c12
                try clear c12b0
                try clear p13
                try clear q13
                try clear hx13
                try clear c15
                try clear c16
                try clear p16
                try clear q16
                try clear hx16
                try clear c18
                try clear c19
                try clear c19b0
                try clear c21
                try clear c21b0
                try clear c22
                try clear c22b0
                try clear p23
                try clear q23
                try clear hx23
                try clear c24
                try clear c24b0
                try clear c24b1
                try clear c25
                try clear c25b0
                try clear c25b1
                try clear c26
                try clear c26b0
                try clear c26b1
                try clear c27
                try clear c27b0
                try clear c27b1
                try clear c28
                try clear c29
                try clear c29b0
                try clear c29b1
                try clear c30
                try clear c30b0
                try clear c30b1
                try clear c31
                try clear c31b0
                try clear c31b1
                try clear c33
                try clear c33b0
                try clear c33b1
                try clear c34
                try clear c34b0
                try clear c34b1
                try clear c35
                try clear c35b0
                try clear c35b1
                try clear c38
                try clear c39
                try clear c39b0
                try clear c40
                try clear c40b0
                try clear p41
                try clear q41
                try clear hx41
                try clear c43
                try clear c44
                try clear c44b0
                try clear c46
                try clear c46b0
                try clear c46b1
                try clear c47
                try clear c47b0
                try clear c47b1
                try clear c48
                try clear c48b0
                try clear c48b1
                try clear c50
                try clear c50b0
                try clear c52
                try clear c52b0
                try clear c52b1
                try clear c53
                try clear c53b0
                try clear c53b1
                try clear c54
                try clear c54b0
                try clear c54b1
                try clear c56
                try clear c56b0
                try clear c56b1
                try clear hcz20_0
                try clear hcz20_1
                try clear hcz28_0
                try clear hcz28_1
                try clear hcz32_0
                try clear hcz32_1
                try clear hcz36_0
                try clear hcz36_1
                try clear hcz45_0
                try clear hcz45_1
                try clear hcz49_0
                try clear hcz49_1
                try clear hcz51_0
                try clear hcz51_1
                try clear hcz55_0
                try clear hcz55_1
                try clear hfz20_0
                try clear hfz20_1
                try clear hfz28_0
                try clear hfz28_1
                try clear hfz32_0
                try clear hfz32_1
                try clear hfz36_0
                try clear hfz36_1
                try clear hfz45_0
                try clear hfz45_1
                try clear hfz49_0
                try clear hfz49_1
                try clear hfz51_0
                try clear hfz51_1
                try clear hfz55_0
                try clear hfz55_1
                try clear p1
                try clear p13
                try clear p16
                try clear p2
                try clear p23
                try clear p41
                try clear p5
                try clear p6
                try clear q1
                try clear q13
                try clear q16
                try clear q2
                try clear q23
                try clear q41
                try clear q5
                obtain ⟨x7_1, rfl, HA, HK1, BK259, HB⟩ := hrel
                cases gk with
                | zero => exact absurd HA.out (by simp [spec_l10One.l2])
                | succ k1 =>
                  have H := HA.out
                  clear HA
                  simp only [spec_l10One.l2] at H
                  by_cases c57 : x7_1 < (a0.size : Int)
                  · rw [if_pos c57] at H
                    have c57b0 : decide (x7_1 < (a0.size : Int)) = true := decide_eq_true c57
                    clear c57
                    by_cases c58 : 0 ≤ x7_1
                    · rw [if_pos c58] at H
                      have c58b0 : decide (0 ≤ x7_1) = true := decide_eq_true c58
                      clear c58
                      by_cases c60 : (bt a0 x7_1) = 34
                      · rw [if_pos c60] at H
                        have c60b0 : ((bt a0 x7_1) == 34) = true := beq_iff_eq.mpr c60
                        have c60b1 : ((bt a0 x7_1) != 34) = false := bne_eq_false_iff_eq.mpr c60
                        clear c60
                        by_cases c61 : x7_1 = (a0.size : Int)
                        · rw [if_pos c61] at H
                          have c61b0 : (x7_1 == (a0.size : Int)) = true := beq_iff_eq.mpr c61
                          have c61b1 : (x7_1 != (a0.size : Int)) = false := bne_eq_false_iff_eq.mpr c61
                          clear c61
                          simp only [Option.some.injEq, Prod.mk.injEq] at H
                          obtain ⟨rfl, rfl, rfl⟩ := H
                          have p59 : 0 ≤ (x7_1 : Int) := oa
                          have q59 : x7_1 < (a0.size : Int) := oa
                          have hx59 := bt_at a0 x7_1
                          replace p59 := eq_true p59
                          replace q59 := eq_true q59
                          obtain ⟨hcz62_0, hcz62_1, hfz62_0, hfz62_1⟩ := bc2 BK259.out
                          go_wp2
                          refine bodyPost_ret (results_ct rfl _ _ gb259 29 #[.int .i64 0, .string (⟨#[]⟩ : ByteArray)] (0, 0) _ rfl bx Try.underlying29 rfl (by kernel_rfl)) rfl ?_
                          exact ⟨by first | rfl | (simp [errW_none, errW_some] <;> rfl) | (simp [*, errW_none, errW_some] <;> rfl), by repeat (first | (with_reducible first | exact HB.out | apply below_alloc | apply pw_below_drewN | apply below_drew1 | refine below_set ?_ GE259.out) | exact HB.out)⟩
                        · rw [if_neg c61] at H
                          have c61b0 : (x7_1 == (a0.size : Int)) = false := beq_eq_false_iff_ne.mpr c61
                          have c61b1 : (x7_1 != (a0.size : Int)) = true := bne_iff_ne.mpr c61
                          replace H := Option.bind_eq_some_iff.mp H
                          obtain ⟨t265, A640, H⟩ := H
                          replace H : (if t265 = true then (if 0 ≤ (wrap64 (a1 + 1)) then (if (wrap64 (a1 + 1)) ≤ x7_1 then (if x7_1 ≤ (a0.size : Int) then (some (3, a0.extract ((wrap64 (a1 + 1)) : Int).toNat (x7_1 : Int).toNat, wrap64 (x7_1 + 1))) else (none)) else (none)) else (none)) else (some (0, (⟨#[]⟩ : ByteArray), 0))) = some (r1, r2, r3) := H
                          have A64 := Aside0.mk A640
                          clear A640
                          by_cases c65 : t265 = true
                          · subst c65
                            have H1 : (if 0 ≤ (wrap64 (a1 + 1)) then (if (wrap64 (a1 + 1)) ≤ x7_1 then (if x7_1 ≤ (a0.size : Int) then (some (3, a0.extract ((wrap64 (a1 + 1)) : Int).toNat (x7_1 : Int).toNat, wrap64 (x7_1 + 1))) else (none)) else (none)) else (none)) = some (r1, r2, r3) := by rw [if_pos rfl] at H; exact H
                            clear H
                            have H := H1
                            clear H1
                            obtain ⟨ji66, hji66⟩ : ∃ j_ : Int, (wrap64 (a1 + 1)) = j_ := ⟨_, rfl⟩
                            replace H : (if 0 ≤ (ji66) then (if (ji66) ≤ x7_1 then (if x7_1 ≤ (a0.size : Int) then (some (3, a0.extract ((ji66) : Int).toNat (x7_1 : Int).toNat, wrap64 (x7_1 + 1))) else (none)) else (none)) else (none)) = some (r1, r2, r3) := by first | (rw [hji66] at H; exact H) | (simp only [hji66] at H ⊢; exact H)
                            (try rw [hji66] at A64)
                            have hji66w : (IntKind.i64.wrap (a1 + 1)) = ji66 := (i64_w _).trans hji66
                            by_cases c67 : 0 ≤ (ji66)
                            · rw [if_pos c67] at H
                              have c67b0 := eq_true c67
                              have c67b1 : decide (0 ≤ (ji66)) = true := decide_eq_true c67
                              clear c67
                              by_cases c68 : (ji66) ≤ x7_1
                              · rw [if_pos c68] at H
                                have c68b0 := eq_true c68
                                have c68b1 : decide ((ji66) ≤ x7_1) = true := decide_eq_true c68
                                clear c68
                                by_cases c69 : x7_1 ≤ (a0.size : Int)
                                · rw [if_pos c69] at H
                                  have c69b0 := eq_true c69
                                  have c69b1 : decide (x7_1 ≤ (a0.size : Int)) = true := decide_eq_true c69
                                  clear c69
                                  simp only [Option.some.injEq, Prod.mk.injEq] at H
                                  obtain ⟨rfl, rfl, rfl⟩ := H
                                  have p59 : 0 ≤ (x7_1 : Int) := oa
                                  have q59 : x7_1 < (a0.size : Int) := oa
                                  have hx59 := bt_at a0 x7_1
                                  replace p59 := eq_true p59
                                  replace q59 := eq_true q59
                                  have p63 : 0 ≤ (x7_1 : Int) := oa
                                  have q63 : x7_1 < (a0.size : Int) := oa
                                  have hx63 := bt_at a0 x7_1
                                  replace p63 := eq_true p63
                                  replace q63 := eq_true q63
                                  go_wp2_with (first | (go_at_call 29; (with_reducible refine (spec_l01In.calls (wrap64 ((wrap64 (x7_1 - a1)) - 1)) 1 8 true _ A64.out).mono ?_); rintro e w' ⟨rfl, ⟨nd, rfl⟩⟩; (try (rw [drewN_self wr]; generalize hq_ : World.drewN wr _ = wr; have n0_ : Aside0 (wr.heap[gb259]? = some (.cells #[.int .i64 0, .string (⟨#[]⟩ : ByteArray)] 29 (0, 0))) := ⟨by rw [← hq_]; exact bx⟩; have n1_ : Aside0 (Below w.heap.size w wr) := ⟨by rw [← hq_]; exact bw⟩; clear BK259 HB hq_; have BK259 := n0_; have HB := n1_; clear n0_ n1_)); obtain ⟨hcz70_0, hcz70_1, hfz70_0, hfz70_1⟩ := bc2 BK259.out))
                                  refine bodyPost_ret (results_ct rfl _ _ gb259 29 #[.int .i64 3, .string (a0.extract ((ji66) : Int).toNat (x7_1 : Int).toNat)] (0, 0) _ rfl bx Try.underlying29 rfl (by kernel_rfl)) rfl ?_
                                  exact ⟨by first | rfl | (simp [errW_none, errW_some] <;> rfl) | (simp only [← hji66]; first | rfl | (simp [errW_none, errW_some] <;> rfl)) | (simp [*, errW_none, errW_some] <;> rfl), by repeat (first | (with_reducible first | exact HB.out | apply below_alloc | apply pw_below_drewN | apply below_drew1 | refine below_set ?_ GE259.out) | exact HB.out)⟩
                                · rw [if_neg c69] at H
                                  exact absurd H (by simp)
                              · rw [if_neg c68] at H
                                exact absurd H (by simp)
                            · rw [if_neg c67] at H
                              exact absurd H (by simp)
                          · replace c65 := Bool.eq_false_iff.mpr c65
                            subst c65
                            have H1 : (some (0, (⟨#[]⟩ : ByteArray), 0)) = some (r1, r2, r3) := by rw [if_neg (show ¬ (false = true) by decide)] at H; exact H
                            clear H
                            have H := H1
                            clear H1
                            simp only [Option.some.injEq, Prod.mk.injEq] at H
                            obtain ⟨rfl, rfl, rfl⟩ := H
                            have p59 : 0 ≤ (x7_1 : Int) := oa
                            have q59 : x7_1 < (a0.size : Int) := oa
                            have hx59 := bt_at a0 x7_1
                            replace p59 := eq_true p59
                            replace q59 := eq_true q59
                            have p63 : 0 ≤ (x7_1 : Int) := oa
                            have q63 : x7_1 < (a0.size : Int) := oa
                            have hx63 := bt_at a0 x7_1
                            replace p63 := eq_true p63
                            replace q63 := eq_true q63
                            go_wp2_with (first | (go_at_call 29; (with_reducible refine (spec_l01In.calls (wrap64 ((wrap64 (x7_1 - a1)) - 1)) 1 8 false _ A64.out).mono ?_); rintro e w' ⟨rfl, ⟨nd, rfl⟩⟩; (try (rw [drewN_self wr]; generalize hq_ : World.drewN wr _ = wr; have n0_ : Aside0 (wr.heap[gb259]? = some (.cells #[.int .i64 0, .string (⟨#[]⟩ : ByteArray)] 29 (0, 0))) := ⟨by rw [← hq_]; exact bx⟩; have n1_ : Aside0 (Below w.heap.size w wr) := ⟨by rw [← hq_]; exact bw⟩; clear BK259 HB hq_; have BK259 := n0_; have HB := n1_; clear n0_ n1_)); obtain ⟨hcz71_0, hcz71_1, hfz71_0, hfz71_1⟩ := bc2 BK259.out))
                            refine bodyPost_ret (results_ct rfl _ _ gb259 29 #[.int .i64 0, .string (⟨#[]⟩ : ByteArray)] (0, 0) _ rfl bx Try.underlying29 rfl (by kernel_rfl)) rfl ?_
                            exact ⟨by first | rfl | (simp [errW_none, errW_some] <;> rfl) | (simp [*, errW_none, errW_some] <;> rfl), by repeat (first | (with_reducible first | exact HB.out | apply below_alloc | apply pw_below_drewN | apply below_drew1 | refine below_set ?_ GE259.out) | exact HB.out)⟩
                      · rw [if_neg c60] at H
                        have c60b0 : ((bt a0 x7_1) == 34) = false := beq_eq_false_iff_ne.mpr c60
                        have c60b1 : ((bt a0 x7_1) != 34) = true := bne_iff_ne.mpr c60
                        by_cases c73 : (bt a0 x7_1) = 10
                        · rw [if_pos c73] at H
                          have c73b0 : ((bt a0 x7_1) == 10) = true := beq_iff_eq.mpr c73
                          have c73b1 : ((bt a0 x7_1) != 10) = false := bne_eq_false_iff_eq.mpr c73
                          clear c73
                          by_cases c74 : x7_1 = (a0.size : Int)
                          · rw [if_pos c74] at H
                            have c74b0 : (x7_1 == (a0.size : Int)) = true := beq_iff_eq.mpr c74
                            have c74b1 : (x7_1 != (a0.size : Int)) = false := bne_eq_false_iff_eq.mpr c74
                            clear c74
                            simp only [Option.some.injEq, Prod.mk.injEq] at H
                            obtain ⟨rfl, rfl, rfl⟩ := H
                            have p59 : 0 ≤ (x7_1 : Int) := oa
                            have q59 : x7_1 < (a0.size : Int) := oa
                            have hx59 := bt_at a0 x7_1
                            replace p59 := eq_true p59
                            replace q59 := eq_true q59
                            have p72 : 0 ≤ (x7_1 : Int) := oa
                            have q72 : x7_1 < (a0.size : Int) := oa
                            have hx72 := bt_at a0 x7_1
                            replace p72 := eq_true p72
                            replace q72 := eq_true q72
                            obtain ⟨hcz75_0, hcz75_1, hfz75_0, hfz75_1⟩ := bc2 BK259.out
                            go_wp2
                            refine bodyPost_ret (results_ct rfl _ _ gb259 29 #[.int .i64 0, .string (⟨#[]⟩ : ByteArray)] (0, 0) _ rfl bx Try.underlying29 rfl (by kernel_rfl)) rfl ?_
                            exact ⟨by first | rfl | (simp [errW_none, errW_some] <;> rfl) | (simp [*, errW_none, errW_some] <;> rfl), by repeat (first | (with_reducible first | exact HB.out | apply below_alloc | apply pw_below_drewN | apply below_drew1 | refine below_set ?_ GE259.out) | exact HB.out)⟩
                          · rw [if_neg c74] at H
                            have c74b0 : (x7_1 == (a0.size : Int)) = false := beq_eq_false_iff_ne.mpr c74
                            have c74b1 : (x7_1 != (a0.size : Int)) = true := bne_iff_ne.mpr c74
                            simp only [Option.some.injEq, Prod.mk.injEq] at H
                            obtain ⟨rfl, rfl, rfl⟩ := H
                            have p59 : 0 ≤ (x7_1 : Int) := oa
                            have q59 : x7_1 < (a0.size : Int) := oa
                            have hx59 := bt_at a0 x7_1
                            replace p59 := eq_true p59
                            replace q59 := eq_true q59
                            have p72 : 0 ≤ (x7_1 : Int) := oa
                            have q72 : x7_1 < (a0.size : Int) := oa
                            have hx72 := bt_at a0 x7_1
                            replace p72 := eq_true p72
                            replace q72 := eq_true q72
                            have p76 : 0 ≤ (x7_1 : Int) := oa
                            have q76 : x7_1 < (a0.size : Int) := oa
                            have hx76 := bt_at a0 x7_1
                            replace p76 := eq_true p76
                            replace q76 := eq_true q76
                            obtain ⟨hcz77_0, hcz77_1, hfz77_0, hfz77_1⟩ := bc2 BK259.out
                            go_wp2
                            refine bodyPost_ret (results_ct rfl _ _ gb259 29 #[.int .i64 0, .string (⟨#[]⟩ : ByteArray)] (0, 0) _ rfl bx Try.underlying29 rfl (by kernel_rfl)) rfl ?_
                            exact ⟨by first | rfl | (simp [errW_none, errW_some] <;> rfl) | (simp [*, errW_none, errW_some] <;> rfl), by repeat (first | (with_reducible first | exact HB.out | apply below_alloc | apply pw_below_drewN | apply below_drew1 | refine below_set ?_ GE259.out) | exact HB.out)⟩
                        · rw [if_neg c73] at H
                          have c73b0 : ((bt a0 x7_1) == 10) = false := beq_eq_false_iff_ne.mpr c73
                          have c73b1 : ((bt a0 x7_1) != 10) = true := bne_iff_ne.mpr c73
                          have H' := Aside0.mk H
                          clear H
                          have p59 : 0 ≤ (x7_1 : Int) := oa
                          have q59 : x7_1 < (a0.size : Int) := oa
                          have hx59 := bt_at a0 x7_1
                          replace p59 := eq_true p59
                          replace q59 := eq_true q59
                          have p72 : 0 ≤ (x7_1 : Int) := oa
                          have q72 : x7_1 < (a0.size : Int) := oa
                          have hx72 := bt_at a0 x7_1
                          replace p72 := eq_true p72
                          replace q72 := eq_true q72
                          go_wp2
                          go_roundg k1
                          case measure => have := HK1.out; omega
                          case rel => exact ⟨(wrap64 (x7_1 + 1)), (by first | rfl | (simp; done) | (simp [*]; done) | (simp [isE0, isE1]; done)), H', ⟨by have := HK1.out; omega⟩, ⟨by (with_reducible repeat (first | refine blk_drewN ?_ _ | refine blk_drew ?_ | refine blk_alloc ?_ _)); exact BK259.out⟩, ⟨by repeat (first | (with_reducible first | exact HB.out | apply below_alloc | apply pw_below_drewN | apply below_drew1 | refine below_set ?_ GE259.out) | exact HB.out)⟩⟩
                    · rw [if_neg c58] at H
                      exact absurd H (by simp)
                  · rw [if_neg c57] at H
                    have c57b0 : decide (x7_1 < (a0.size : Int)) = false := decide_eq_false c57
                    clear c57
                    by_cases c78 : x7_1 = (a0.size : Int)
                    · rw [if_pos c78] at H
                      have c78b0 : (x7_1 == (a0.size : Int)) = true := beq_iff_eq.mpr c78
                      have c78b1 : (x7_1 != (a0.size : Int)) = false := bne_eq_false_iff_eq.mpr c78
                      clear c78
                      simp only [Option.some.injEq, Prod.mk.injEq] at H
                      obtain ⟨rfl, rfl, rfl⟩ := H
                      obtain ⟨hcz79_0, hcz79_1, hfz79_0, hfz79_1⟩ := bc2 BK259.out
                      go_wp2
                      refine bodyPost_ret (results_ct rfl _ _ gb259 29 #[.int .i64 0, .string (⟨#[]⟩ : ByteArray)] (0, 0) _ rfl bx Try.underlying29 rfl (by kernel_rfl)) rfl ?_
                      exact ⟨by first | rfl | (simp [errW_none, errW_some] <;> rfl) | (simp [*, errW_none, errW_some] <;> rfl), by repeat (first | (with_reducible first | exact HB.out | apply below_alloc | apply pw_below_drewN | apply below_drew1 | refine below_set ?_ GE259.out) | exact HB.out)⟩
                    · rw [if_neg c78] at H
                      have c78b0 : (x7_1 == (a0.size : Int)) = false := beq_eq_false_iff_ne.mpr c78
                      have c78b1 : (x7_1 != (a0.size : Int)) = true := bne_iff_ne.mpr c78
                      by_cases c80 : 0 ≤ x7_1
                      · rw [if_pos c80] at H
                        exact absurd H (by simp)
                      · rw [if_neg c80] at H
                        exact absurd H (by simp)
            · rw [if_neg c56] at H
              have c56b0 : ((bt a0 a1) == 34) = false := beq_eq_false_iff_ne.mpr c56
              have c56b1 : ((bt a0 a1) != 34) = true := bne_iff_ne.mpr c56
              by_cases c81 : (bt a0 a1) = 91
              · rw [if_pos c81] at H
                have c81b0 : ((bt a0 a1) == 91) = true := beq_iff_eq.mpr c81
                have c81b1 : ((bt a0 a1) != 91) = false := bne_eq_false_iff_eq.mpr c81
                clear c81
                have H' := Aside0.mk H
                clear H
                go_wp2_with (first | ((with_reducible refine gate_callee (f := 27) rfl ?_); refine goesL_ (some 17) rfl rfl Try.func27 (by kernel_rfl) rfl #[.int .u8 (bt a0 a1)] rfl (by (try simp only [List.map_toArray, List.map_cons, List.map_nil]); first | done | rfl | (simp only [List.length_drop, List.length_take]; rfl)) ?_; (with_reducible refine (spec_l10Letter.calls (bt a0 a1) false _ A8.out).mono ?_); rintro e w' ⟨rfl, ⟨nd, rfl⟩⟩; refine ⟨_, rfl, ?_⟩) | ((with_reducible refine gate_callee (f := 28) rfl ?_); refine goesL_ (some 66) rfl rfl Try.func28 (by kernel_rfl) rfl #[.int .u8 (bt a0 a1)] rfl (by (try simp only [List.map_toArray, List.map_cons, List.map_nil]); first | done | rfl | (simp only [List.length_drop, List.length_take]; rfl)) ?_; (with_reducible refine (spec_l10Figure.calls (bt a0 a1) false _ A37.out).mono ?_); rintro e w' ⟨rfl, ⟨nd, rfl⟩⟩; refine ⟨_, rfl, ?_⟩))
                go_loopg [7] k (fun kq v7 w' => ∃ (x7_1 : Int), v7 = .int .i64 x7_1 ∧ Aside0 (spec_l10One.l3 kq a0 a1 x7_1 = some (r1, r2, r3)) ∧ Aside0 (kq ≤ k) ∧ Aside0 (w'.heap[gb259]? = some (.cells #[.int .i64 0, .string (⟨#[]⟩ : ByteArray)] 29 (0, 0))) ∧ Aside0 (Below w.heap.size w w'))
                case atStart => exact ⟨(wrap64 (a1 + 1)), (by first | rfl | (simp; done) | (simp [*]; done) | (simp [isE0, isE1]; done)), H', ⟨Nat.le_refl _⟩, ⟨by (with_reducible repeat (first | refine blk_drewN ?_ _ | refine blk_drew ?_ | refine blk_alloc ?_ _)); exact BK259.out⟩, ⟨by repeat (first | (with_reducible first | exact HB.out | apply below_alloc | apply pw_below_drewN | apply below_drew1 | refine below_set ?_ GE259.out) | exact HB.out)⟩⟩
                case round =>
                  clear H'
                  try clear c1
                  try clear p1
                  try clear q1
                  try clear hx1
                  try clear c2
                  try clear p2
                  try clear q2
                  try clear hx2
                  try clear c3
                  try clear c3b0
                  try clear c4
                  try clear c4b0
                  try clear p4
                  try clear q4
                  try clear hx4
                  try clear c5
                  try clear p5
                  try clear q5
                  try clear hx5
                  try clear c6
                  try clear p6
                  try clear q6
                  try clear hx6
                  try clear c7
                  try clear p7
                  try clear q7
                  try clear hx7
                  try clear c8
                  try clear c9
                  try clear c11
                  try clear c11b0
                  try clear c12
                  try clear c12b0
                  try clear p13
                  try clear q13
                  try clear hx13
                  try clear c15
                  try clear c16
                  try clear p16
                  try clear q16
                  try clear hx16
                  try clear c18
                  try clear c19
                  try clear c19b0
                  try clear c21
                  try clear c21b0
                  try clear c22
                  try clear c22b0
                  try clear p23
                  try clear q23
                  try clear hx23
                  try clear c24
                  try clear c24b0
                  try clear c24b1
                  try clear c25
                  try clear c25b0
                  try clear c25b1
                  try clear c26
                  try clear c26b0
                  try clear c26b1
                  try clear c27
                  try clear c27b0
                  try clear c27b1
                  try clear c28
                  try clear c29
                  try clear c29b0
                  try clear c29b1
                  try clear c30
                  try clear c30b0
                  try clear c30b1
                  try clear c31
                  try clear c31b0
                  try clear c31b1
                  try clear c33
                  try clear c33b0
                  try clear c33b1
                  try clear c34
                  try clear c34b0
                  try clear c34b1
                  try clear c35
                  try clear c35b0
                  try clear c35b1
                  try clear c38
                  try clear c39
                  try clear c39b0
                  try clear c40
                  try clear c40b0
                  try clear p41
                  try clear q41
                  try clear hx41
                  try clear c43
                  try clear c44
                  try clear c44b0
                  try clear c46
                  try clear c46b0
                  try clear c46b1
                  try clear c47
                  try clear c47b0
                  try clear c47b1
                  try clear c48
                  try clear c48b0
                  try clear c48b1
                  try clear c50
                  try clear c50b0
                  try clear c52
                  try clear c52b0
                  try clear c52b1
                  try clear c53
                  try clear c53b0
                  try clear c53b1
                  try clear c54
                  try clear c54b0
                  try clear c54b1
                  try clear c56
                  try clear c56b0
                  try clear c56b1
                  try clear c57
                  try clear c57b0
                  try clear c58
                  try clear c58b0
                  try clear p59
                  try clear q59
                  try clear hx59
                  try clear c60
                  try clear c60b0
                  try clear c60b1
                  try clear c61
                  try clear c61b0
                  try clear c61b1
                  try clear p63
                  try clear q63
                  try clear hx63
                  try clear p64
                  try clear c65
                  try clear c67
                  try clear c67b0
                  try clear c67b1
                  try clear c68
                  try clear c68b0
                  try clear c68b1
                  try clear c69
                  try clear c69b0
                  try clear c69b1
                  try clear p72
                  try clear q72
                  try clear hx72
                  try clear c73
                  try clear c73b0
                  try clear c73b1
                  try clear c74
                  try clear c74b0
                  try clear c74b1
                  try clear p76
                  try clear q76
                  try clear hx76
                  try clear c78
                  try clear c78b0
                  try clear c78b1
                  try clear c80
                  try clear c81
                  try clear c81b0
                  try clear c81b1
                  try clear hcz20_0
                  try clear hcz20_1
                  try clear hcz28_0
                  try clear hcz28_1
                  try clear hcz32_0
                  try clear hcz32_1
                  try clear hcz36_0
                  try clear hcz36_1
                  try clear hcz45_0
                  try clear hcz45_1
                  try clear hcz49_0
                  try clear hcz49_1
                  try clear hcz51_0
                  try clear hcz51_1
                  try clear hcz55_0
                  try clear hcz55_1
                  try clear hcz62_0
                  try clear hcz62_1
                  try clear hcz70_0
                  try clear hcz70_1
                  try clear hcz71_0
                  try clear hcz71_1
                  try clear hcz75_0
                  try clear hcz75_1
                  try clear hcz77_0
                  try clear hcz77_1
                  try clear hcz79_0
                  try clear hcz79_1
                  try clear hfz20_0
                  try clear hfz20_1
                  try clear hfz28_0
                  try clear hfz28_1
                  try clear hfz32_0
                  try clear hfz32_1
                  try clear hfz36_0
                  try clear hfz36_1
                  try clear hfz45_0
                  try clear hfz45_1
                  try clear hfz49_0
                  try clear hfz49_1
                  try clear hfz51_0
                  try clear hfz51_1
                  try clear hfz55_0
                  try clear hfz55_1
                  try clear hfz62_0
                  try clear hfz62_1
                  try clear hfz70_0
                  try clear hfz70_1
                  try clear hfz71_0
                  try clear hfz71_1
                  try clear hfz75_0
                  try clear hfz75_1
                  try clear hfz77_0
                  try clear hfz77_1
                  try clear hfz79_0
                  try clear hfz79_1
                  try clear p1
                  try clear p13
                  try clear p16
                  try clear p2
                  try clear p23
                  try clear p4
                  try clear p41
                  try clear p5
                  try clear p59
                  try clear p6
                  try clear p63
                  try clear p72
                  try clear p76
                  try clear q1
                  try clear q13
                  try clear q16
                  try clear q2
                  try clear q23
                  try clear q4
                  try clear q41
                  try clear q5
                  try clear q59
                  try clear q63
                  try clear q72
                  try clear q76
                  obtain ⟨x7_1, rfl, HA, HK1, BK259, HB⟩ := hrel
                  cases gk with
                  | zero => exact absurd HA.out (by simp [spec_l10One.l3])
                  | succ k1 =>
                    have H := HA.out
                    clear HA
                    simp only [spec_l10One.l3] at H
                    by_cases c82 : x7_1 < (a0.size : Int)
                    · rw [if_pos c82] at H
                      have c82b0 : decide (x7_1 < (a0.size : Int)) = true := decide_eq_true c82
                      clear c82
                      by_cases c83 : 0 ≤ x7_1
                      · rw [if_pos c83] at H
                        have c83b0 : decide (0 ≤ x7_1) = true := decide_eq_true c83
                        clear c83
                        by_cases c85 : (bt a0 x7_1) = 93
                        · rw [if_pos c85] at H
                          have c85b0 : ((bt a0 x7_1) == 93) = true := beq_iff_eq.mpr c85
                          have c85b1 : ((bt a0 x7_1) != 93) = false := bne_eq_false_iff_eq.mpr c85
                          clear c85
                          by_cases c86 : x7_1 = (a0.size : Int)
                          · rw [if_pos c86] at H
                            have c86b0 : (x7_1 == (a0.size : Int)) = true := beq_iff_eq.mpr c86
                            have c86b1 : (x7_1 != (a0.size : Int)) = false := bne_eq_false_iff_eq.mpr c86
                            clear c86
                            simp only [Option.some.injEq, Prod.mk.injEq] at H
                            obtain ⟨rfl, rfl, rfl⟩ := H
                            have p84 : 0 ≤ (x7_1 : Int) := oa
                            have q84 : x7_1 < (a0.size : Int) := oa
                            have hx84 := bt_at a0 x7_1
                            replace p84 := eq_true p84
                            replace q84 := eq_true q84
                            obtain ⟨hcz87_0, hcz87_1, hfz87_0, hfz87_1⟩ := bc2 BK259.out
                            go_wp2
                            refine bodyPost_ret (results_ct rfl _ _ gb259 29 #[.int .i64 0, .string (⟨#[]⟩ : ByteArray)] (0, 0) _ rfl bx Try.underlying29 rfl (by kernel_rfl)) rfl ?_
                            exact ⟨by first | rfl | (simp [errW_none, errW_some] <;> rfl) | (simp [*, errW_none, errW_some] <;> rfl), by repeat (first | (with_reducible first | exact HB.out | apply below_alloc | apply pw_below_drewN | apply below_drew1 | refine below_set ?_ GE259.out) | exact HB.out)⟩
                          · rw [if_neg c86] at H
                            have c86b0 : (x7_1 == (a0.size : Int)) = false := beq_eq_false_iff_ne.mpr c86
                            have c86b1 : (x7_1 != (a0.size : Int)) = true := bne_iff_ne.mpr c86
                            obtain ⟨ji88, hji88⟩ : ∃ j_ : Int, (wrap64 (a1 + 1)) = j_ := ⟨_, rfl⟩
                            replace H : (if 0 ≤ (ji88) then (if (ji88) ≤ x7_1 then (if x7_1 ≤ (a0.size : Int) then ((spec_SetOk.f k1 (a0.extract ((ji88) : Int).toNat (x7_1 : Int).toNat)).bind fun t266 => (if t266 = true then (some (4, a0.extract ((ji88) : Int).toNat (x7_1 : Int).toNat, wrap64 (x7_1 + 1))) else (some (0, (⟨#[]⟩ : ByteArray), 0)))) else (none)) else (none)) else (none)) = some (r1, r2, r3) := by first | (rw [hji88] at H; exact H) | (simp only [hji88] at H ⊢; exact H)
                            have hji88w : (IntKind.i64.wrap (a1 + 1)) = ji88 := (i64_w _).trans hji88
                            by_cases c89 : 0 ≤ (ji88)
                            · rw [if_pos c89] at H
                              have c89b0 := eq_true c89
                              have c89b1 : decide (0 ≤ (ji88)) = true := decide_eq_true c89
                              clear c89
                              by_cases c90 : (ji88) ≤ x7_1
                              · rw [if_pos c90] at H
                                have c90b0 := eq_true c90
                                have c90b1 : decide ((ji88) ≤ x7_1) = true := decide_eq_true c90
                                clear c90
                                by_cases c91 : x7_1 ≤ (a0.size : Int)
                                · rw [if_pos c91] at H
                                  have c91b0 := eq_true c91
                                  have c91b1 : decide (x7_1 ≤ (a0.size : Int)) = true := decide_eq_true c91
                                  clear c91
                                  replace H := Option.bind_eq_some_iff.mp H
                                  obtain ⟨t266, A920, H⟩ := H
                                  replace H : (if t266 = true then (some (4, a0.extract ((ji88) : Int).toNat (x7_1 : Int).toNat, wrap64 (x7_1 + 1))) else (some (0, (⟨#[]⟩ : ByteArray), 0))) = some (r1, r2, r3) := H
                                  have A92 := Aside0.mk A920
                                  clear A920
                                  by_cases c93 : t266 = true
                                  · subst c93
                                    have H1 : (some (4, a0.extract ((ji88) : Int).toNat (x7_1 : Int).toNat, wrap64 (x7_1 + 1))) = some (r1, r2, r3) := by rw [if_pos rfl] at H; exact H
                                    clear H
                                    have H := H1
                                    clear H1
                                    have c94b0 := eq_true (oa : 0 ≤ (ji88))
                                    have c95b0 := eq_true (oa : (ji88) ≤ x7_1)
                                    have c96b0 := eq_true (oa : x7_1 ≤ (a0.size : Int))
                                    simp only [Option.some.injEq, Prod.mk.injEq] at H
                                    obtain ⟨rfl, rfl, rfl⟩ := H
                                    have p84 : 0 ≤ (x7_1 : Int) := oa
                                    have q84 : x7_1 < (a0.size : Int) := oa
                                    have hx84 := bt_at a0 x7_1
                                    replace p84 := eq_true p84
                                    replace q84 := eq_true q84
                                    go_wp2_with (first | (go_at_call 30; (with_reducible refine (spec_SetOk.calls k1 (a0.extract ((ji88) : Int).toNat (x7_1 : Int).toNat) true _ A92.out).mono ?_); rintro e w97 ⟨rfl, hb⟩; have n0_ := Aside0.mk (blk_below (g := gb259) (o := .cells #[.int .i64 0, .string (⟨#[]⟩ : ByteArray)] 29 (0, 0)) bx hb); have n1_ := Aside0.mk (below_step bw hb); clear BK259; clear HB; have BK259 := n0_; have HB := n1_; clear n0_ n1_; (try clear hb); (try clear hb2); (try clear hk); (try clear hi); obtain ⟨hcz98_0, hcz98_1, hfz98_0, hfz98_1⟩ := bc2 BK259.out))
                                    refine bodyPost_ret (results_ct rfl _ _ gb259 29 #[.int .i64 4, .string (a0.extract ((ji88) : Int).toNat (x7_1 : Int).toNat)] (0, 0) _ rfl bx Try.underlying29 rfl (by kernel_rfl)) rfl ?_
                                    exact ⟨by first | rfl | (simp [errW_none, errW_some] <;> rfl) | (simp only [← hji88]; first | rfl | (simp [errW_none, errW_some] <;> rfl)) | (simp [*, errW_none, errW_some] <;> rfl), by repeat (first | (with_reducible first | exact HB.out | apply below_alloc | apply pw_below_drewN | apply below_drew1 | refine below_set ?_ GE259.out) | exact HB.out)⟩
                                  · replace c93 := Bool.eq_false_iff.mpr c93
                                    subst c93
                                    have H1 : (some (0, (⟨#[]⟩ : ByteArray), 0)) = some (r1, r2, r3) := by rw [if_neg (show ¬ (false = true) by decide)] at H; exact H
                                    clear H
                                    have H := H1
                                    clear H1
                                    simp only [Option.some.injEq, Prod.mk.injEq] at H
                                    obtain ⟨rfl, rfl, rfl⟩ := H
                                    have p84 : 0 ≤ (x7_1 : Int) := oa
                                    have q84 : x7_1 < (a0.size : Int) := oa
                                    have hx84 := bt_at a0 x7_1
                                    replace p84 := eq_true p84
                                    replace q84 := eq_true q84
                                    go_wp2_with (first | (go_at_call 30; (with_reducible refine (spec_SetOk.calls k1 (a0.extract ((ji88) : Int).toNat (x7_1 : Int).toNat) false _ A92.out).mono ?_); rintro e w99 ⟨rfl, hb⟩; have n0_ := Aside0.mk (blk_below (g := gb259) (o := .cells #[.int .i64 0, .string (⟨#[]⟩ : ByteArray)] 29 (0, 0)) bx hb); have n1_ := Aside0.mk (below_step bw hb); clear BK259; clear HB; have BK259 := n0_; have HB := n1_; clear n0_ n1_; (try clear hb); (try clear hb2); (try clear hk); (try clear hi); obtain ⟨hcz100_0, hcz100_1, hfz100_0, hfz100_1⟩ := bc2 BK259.out))
                                    refine bodyPost_ret (results_ct rfl _ _ gb259 29 #[.int .i64 0, .string (⟨#[]⟩ : ByteArray)] (0, 0) _ rfl bx Try.underlying29 rfl (by kernel_rfl)) rfl ?_
                                    exact ⟨by first | rfl | (simp [errW_none, errW_some] <;> rfl) | (simp only [← hji88]; first | rfl | (simp [errW_none, errW_some] <;> rfl)) | (simp [*, errW_none, errW_some] <;> rfl), by repeat (first | (with_reducible first | exact HB.out | apply below_alloc | apply pw_below_drewN | apply below_drew1 | refine below_set ?_ GE259.out) | exact HB.out)⟩
                                · rw [if_neg c91] at H
                                  exact absurd H (by simp)
                              · rw [if_neg c90] at H
                                exact absurd H (by simp)
                            · rw [if_neg c89] at H
                              exact absurd H (by simp)
                        · rw [if_neg c85] at H
                          have c85b0 : ((bt a0 x7_1) == 93) = false := beq_eq_false_iff_ne.mpr c85
                          have c85b1 : ((bt a0 x7_1) != 93) = true := bne_iff_ne.mpr c85
                          have H' := Aside0.mk H
                          clear H
                          have p84 : 0 ≤ (x7_1 : Int) := oa
                          have q84 : x7_1 < (a0.size : Int) := oa
                          have hx84 := bt_at a0 x7_1
                          replace p84 := eq_true p84
                          replace q84 := eq_true q84
                          go_wp2
                          go_roundg k1
                          case measure => have := HK1.out; omega
                          case rel => exact ⟨(wrap64 (x7_1 + 1)), (by first | rfl | (simp; done) | (simp [*]; done) | (simp [isE0, isE1]; done)), H', ⟨by have := HK1.out; omega⟩, ⟨by (with_reducible repeat (first | refine blk_drewN ?_ _ | refine blk_drew ?_ | refine blk_alloc ?_ _)); exact BK259.out⟩, ⟨by repeat (first | (with_reducible first | exact HB.out | apply below_alloc | apply pw_below_drewN | apply below_drew1 | refine below_set ?_ GE259.out) | exact HB.out)⟩⟩
                      · rw [if_neg c83] at H
                        exact absurd H (by simp)
                    · rw [if_neg c82] at H
                      have c82b0 : decide (x7_1 < (a0.size : Int)) = false := decide_eq_false c82
                      clear c82
                      by_cases c101 : x7_1 = (a0.size : Int)
                      · rw [if_pos c101] at H
                        have c101b0 : (x7_1 == (a0.size : Int)) = true := beq_iff_eq.mpr c101
                        have c101b1 : (x7_1 != (a0.size : Int)) = false := bne_eq_false_iff_eq.mpr c101
                        clear c101
                        simp only [Option.some.injEq, Prod.mk.injEq] at H
                        obtain ⟨rfl, rfl, rfl⟩ := H
                        obtain ⟨hcz102_0, hcz102_1, hfz102_0, hfz102_1⟩ := bc2 BK259.out
                        go_wp2
                        refine bodyPost_ret (results_ct rfl _ _ gb259 29 #[.int .i64 0, .string (⟨#[]⟩ : ByteArray)] (0, 0) _ rfl bx Try.underlying29 rfl (by kernel_rfl)) rfl ?_
                        exact ⟨by first | rfl | (simp [errW_none, errW_some] <;> rfl) | (simp [*, errW_none, errW_some] <;> rfl), by repeat (first | (with_reducible first | exact HB.out | apply below_alloc | apply pw_below_drewN | apply below_drew1 | refine below_set ?_ GE259.out) | exact HB.out)⟩
                      · rw [if_neg c101] at H
                        have c101b0 : (x7_1 == (a0.size : Int)) = false := beq_eq_false_iff_ne.mpr c101
                        have c101b1 : (x7_1 != (a0.size : Int)) = true := bne_iff_ne.mpr c101
                        obtain ⟨ji103, hji103⟩ : ∃ j_ : Int, (wrap64 (a1 + 1)) = j_ := ⟨_, rfl⟩
                        replace H : (if 0 ≤ (ji103) then (if (ji103) ≤ x7_1 then (if x7_1 ≤ (a0.size : Int) then ((spec_SetOk.f k1 (a0.extract ((ji103) : Int).toNat (x7_1 : Int).toNat)).bind fun t267 => (if t267 = true then (some (4, a0.extract ((ji103) : Int).toNat (x7_1 : Int).toNat, wrap64 (x7_1 + 1))) else (some (0, (⟨#[]⟩ : ByteArray), 0)))) else (none)) else (none)) else (none)) = some (r1, r2, r3) := by first | (rw [hji103] at H; exact H) | (simp only [hji103] at H ⊢; exact H)
                        have hji103w : (IntKind.i64.wrap (a1 + 1)) = ji103 := (i64_w _).trans hji103
                        by_cases c104 : 0 ≤ (ji103)
                        · rw [if_pos c104] at H
                          have c104b0 := eq_true c104
                          have c104b1 : decide (0 ≤ (ji103)) = true := decide_eq_true c104
                          clear c104
                          by_cases c105 : (ji103) ≤ x7_1
                          · rw [if_pos c105] at H
                            have c105b0 := eq_true c105
                            have c105b1 : decide ((ji103) ≤ x7_1) = true := decide_eq_true c105
                            clear c105
                            by_cases c106 : x7_1 ≤ (a0.size : Int)
                            · rw [if_pos c106] at H
                              have c106b0 := eq_true c106
                              have c106b1 : decide (x7_1 ≤ (a0.size : Int)) = true := decide_eq_true c106
                              clear c106
                              replace H := Option.bind_eq_some_iff.mp H
                              obtain ⟨t267, A1070, H⟩ := H
                              replace H : (if t267 = true then (some (4, a0.extract ((ji103) : Int).toNat (x7_1 : Int).toNat, wrap64 (x7_1 + 1))) else (some (0, (⟨#[]⟩ : ByteArray), 0))) = some (r1, r2, r3) := H
                              have A107 := Aside0.mk A1070
                              clear A1070
                              by_cases c108 : t267 = true
                              · subst c108
                                have H1 : (some (4, a0.extract ((ji103) : Int).toNat (x7_1 : Int).toNat, wrap64 (x7_1 + 1))) = some (r1, r2, r3) := by rw [if_pos rfl] at H; exact H
                                clear H
                                have H := H1
                                clear H1
                                have c109b0 := eq_true (oa : 0 ≤ (ji103))
                                have c110b0 := eq_true (oa : (ji103) ≤ x7_1)
                                have c111b0 := eq_true (oa : x7_1 ≤ (a0.size : Int))
                                simp only [Option.some.injEq, Prod.mk.injEq] at H
                                obtain ⟨rfl, rfl, rfl⟩ := H
                                go_wp2_with (first | (go_at_call 30; (with_reducible refine (spec_SetOk.calls k1 (a0.extract ((ji103) : Int).toNat (x7_1 : Int).toNat) true _ A107.out).mono ?_); rintro e w112 ⟨rfl, hb⟩; have n0_ := Aside0.mk (blk_below (g := gb259) (o := .cells #[.int .i64 0, .string (⟨#[]⟩ : ByteArray)] 29 (0, 0)) bx hb); have n1_ := Aside0.mk (below_step bw hb); clear BK259; clear HB; have BK259 := n0_; have HB := n1_; clear n0_ n1_; (try clear hb); (try clear hb2); (try clear hk); (try clear hi); obtain ⟨hcz113_0, hcz113_1, hfz113_0, hfz113_1⟩ := bc2 BK259.out))
                                refine bodyPost_ret (results_ct rfl _ _ gb259 29 #[.int .i64 4, .string (a0.extract ((ji103) : Int).toNat (x7_1 : Int).toNat)] (0, 0) _ rfl bx Try.underlying29 rfl (by kernel_rfl)) rfl ?_
                                exact ⟨by first | rfl | (simp [errW_none, errW_some] <;> rfl) | (simp only [← hji103]; first | rfl | (simp [errW_none, errW_some] <;> rfl)) | (simp [*, errW_none, errW_some] <;> rfl), by repeat (first | (with_reducible first | exact HB.out | apply below_alloc | apply pw_below_drewN | apply below_drew1 | refine below_set ?_ GE259.out) | exact HB.out)⟩
                              · replace c108 := Bool.eq_false_iff.mpr c108
                                subst c108
                                have H1 : (some (0, (⟨#[]⟩ : ByteArray), 0)) = some (r1, r2, r3) := by rw [if_neg (show ¬ (false = true) by decide)] at H; exact H
                                clear H
                                have H := H1
                                clear H1
                                simp only [Option.some.injEq, Prod.mk.injEq] at H
                                obtain ⟨rfl, rfl, rfl⟩ := H
                                go_wp2_with (first | (go_at_call 30; (with_reducible refine (spec_SetOk.calls k1 (a0.extract ((ji103) : Int).toNat (x7_1 : Int).toNat) false _ A107.out).mono ?_); rintro e w114 ⟨rfl, hb⟩; have n0_ := Aside0.mk (blk_below (g := gb259) (o := .cells #[.int .i64 0, .string (⟨#[]⟩ : ByteArray)] 29 (0, 0)) bx hb); have n1_ := Aside0.mk (below_step bw hb); clear BK259; clear HB; have BK259 := n0_; have HB := n1_; clear n0_ n1_; (try clear hb); (try clear hb2); (try clear hk); (try clear hi); obtain ⟨hcz115_0, hcz115_1, hfz115_0, hfz115_1⟩ := bc2 BK259.out))
                                refine bodyPost_ret (results_ct rfl _ _ gb259 29 #[.int .i64 0, .string (⟨#[]⟩ : ByteArray)] (0, 0) _ rfl bx Try.underlying29 rfl (by kernel_rfl)) rfl ?_
                                exact ⟨by first | rfl | (simp [errW_none, errW_some] <;> rfl) | (simp only [← hji103]; first | rfl | (simp [errW_none, errW_some] <;> rfl)) | (simp [*, errW_none, errW_some] <;> rfl), by repeat (first | (with_reducible first | exact HB.out | apply below_alloc | apply pw_below_drewN | apply below_drew1 | refine below_set ?_ GE259.out) | exact HB.out)⟩
                            · rw [if_neg c106] at H
                              exact absurd H (by simp)
                          · rw [if_neg c105] at H
                            exact absurd H (by simp)
                        · rw [if_neg c104] at H
                          exact absurd H (by simp)
              · rw [if_neg c81] at H
                have c81b0 : ((bt a0 a1) == 91) = false := beq_eq_false_iff_ne.mpr c81
                have c81b1 : ((bt a0 a1) != 91) = true := bne_iff_ne.mpr c81
                by_cases c116 : (bt a0 a1) = 45
                · rw [if_pos c116] at H
                  have c116b0 : ((bt a0 a1) == 45) = true := beq_iff_eq.mpr c116
                  have c116b1 : ((bt a0 a1) != 45) = false := bne_eq_false_iff_eq.mpr c116
                  clear c116
                  by_cases c117 : (wrap64 (a1 + 1)) < (a0.size : Int)
                  · rw [if_pos c117] at H
                    have c117b0 : decide ((wrap64 (a1 + 1)) < (a0.size : Int)) = true := decide_eq_true c117
                    clear c117
                    obtain ⟨ji118, hji118⟩ : ∃ j_ : Int, (wrap64 (a1 + 1)) = j_ := ⟨_, rfl⟩
                    replace H : (if 0 ≤ (ji118) then (if (bt a0 (ji118)) = 62 then (some (5, (⟨#[45, 62]⟩ : ByteArray), wrap64 (a1 + 2))) else (spec_l10One.j5 k a0 a1 (bt a0 a1))) else (none)) = some (r1, r2, r3) := by first | (rw [hji118] at H; exact H) | (simp only [hji118] at H ⊢; exact H)
                    (try rw [hji118] at c117b0)
                    (try rw [hji118] at A8)
                    (try rw [hji118] at A37)
                    have hji118w : (IntKind.i64.wrap (a1 + 1)) = ji118 := (i64_w _).trans hji118
                    by_cases c119 : 0 ≤ (ji118)
                    · rw [if_pos c119] at H
                      have c119b0 : decide (0 ≤ (ji118)) = true := decide_eq_true c119
                      clear c119
                      by_cases c121 : (bt a0 (ji118)) = 62
                      · rw [if_pos c121] at H
                        have c121b0 : ((bt a0 (ji118)) == 62) = true := beq_iff_eq.mpr c121
                        have c121b1 : ((bt a0 (ji118)) != 62) = false := bne_eq_false_iff_eq.mpr c121
                        clear c121
                        simp only [Option.some.injEq, Prod.mk.injEq] at H
                        obtain ⟨rfl, rfl, rfl⟩ := H
                        go_wp2_with (first | ((with_reducible refine gate_callee (f := 27) rfl ?_); refine goesL_ (some 17) rfl rfl Try.func27 (by kernel_rfl) rfl #[.int .u8 (bt a0 a1)] rfl (by (try simp only [List.map_toArray, List.map_cons, List.map_nil]); first | done | rfl | (simp only [List.length_drop, List.length_take]; rfl)) ?_; (with_reducible refine (spec_l10Letter.calls (bt a0 a1) false _ A8.out).mono ?_); rintro e w' ⟨rfl, ⟨nd, rfl⟩⟩; refine ⟨_, rfl, ?_⟩; (try (rw [drewN_self w7]; generalize hq_ : World.drewN w7 _ = w7; have n0_ : Aside0 (w7.heap[gb259]? = some (.cells #[.int .i64 0, .string (⟨#[]⟩ : ByteArray)] 29 (0, 0))) := ⟨by rw [← hq_]; exact bx⟩; have n1_ : Aside0 (Below w.heap.size w w7) := ⟨by rw [← hq_]; exact bw⟩; clear BK259 HB hq_; have BK259 := n0_; have HB := n1_; clear n0_ n1_))) | ((with_reducible refine gate_callee (f := 28) rfl ?_); refine goesL_ (some 66) rfl rfl Try.func28 (by kernel_rfl) rfl #[.int .u8 (bt a0 a1)] rfl (by (try simp only [List.map_toArray, List.map_cons, List.map_nil]); first | done | rfl | (simp only [List.length_drop, List.length_take]; rfl)) ?_; (with_reducible refine (spec_l10Figure.calls (bt a0 a1) false _ A37.out).mono ?_); rintro e w' ⟨rfl, ⟨nd, rfl⟩⟩; refine ⟨_, rfl, ?_⟩; (try (rw [drewN_self w7]; generalize hq_ : World.drewN w7 _ = w7; have n0_ : Aside0 (w7.heap[gb259]? = some (.cells #[.int .i64 0, .string (⟨#[]⟩ : ByteArray)] 29 (0, 0))) := ⟨by rw [← hq_]; exact bx⟩; have n1_ : Aside0 (Below w.heap.size w w7) := ⟨by rw [← hq_]; exact bw⟩; clear BK259 HB hq_; have BK259 := n0_; have HB := n1_; clear n0_ n1_)); have p120 : 0 ≤ ((ji118) : Int) := oa; have q120 : (ji118) < (a0.size : Int) := oa; have hx120 := bt_at a0 (ji118); replace p120 := eq_true p120; replace q120 := eq_true q120; obtain ⟨hcz122_0, hcz122_1, hfz122_0, hfz122_1⟩ := bc2 BK259.out))
                        refine bodyPost_ret (results_ct rfl _ _ gb259 29 #[.int .i64 5, .string (⟨#[45, 62]⟩ : ByteArray)] (0, 0) _ rfl bx Try.underlying29 rfl (by kernel_rfl)) rfl ?_
                        exact ⟨by first | rfl | (simp [errW_none, errW_some] <;> rfl) | (simp only [← hji118]; first | rfl | (simp [errW_none, errW_some] <;> rfl)) | (simp [*, errW_none, errW_some] <;> rfl), by repeat (first | (with_reducible first | exact HB.out | apply below_alloc | apply pw_below_drewN | apply below_drew1 | refine below_set ?_ GE259.out) | exact HB.out)⟩
                      · rw [if_neg c121] at H
                        have c121b0 : ((bt a0 (ji118)) == 62) = false := beq_eq_false_iff_ne.mpr c121
                        have c121b1 : ((bt a0 (ji118)) != 62) = true := bne_iff_ne.mpr c121
                        have H' := Aside0.mk H
                        clear H
                        go_wp2_with (first | ((with_reducible refine gate_callee (f := 27) rfl ?_); refine goesL_ (some 17) rfl rfl Try.func27 (by kernel_rfl) rfl #[.int .u8 (bt a0 a1)] rfl (by (try simp only [List.map_toArray, List.map_cons, List.map_nil]); first | done | rfl | (simp only [List.length_drop, List.length_take]; rfl)) ?_; (with_reducible refine (spec_l10Letter.calls (bt a0 a1) false _ A8.out).mono ?_); rintro e w' ⟨rfl, ⟨nd, rfl⟩⟩; refine ⟨_, rfl, ?_⟩) | ((with_reducible refine gate_callee (f := 28) rfl ?_); refine goesL_ (some 66) rfl rfl Try.func28 (by kernel_rfl) rfl #[.int .u8 (bt a0 a1)] rfl (by (try simp only [List.map_toArray, List.map_cons, List.map_nil]); first | done | rfl | (simp only [List.length_drop, List.length_take]; rfl)) ?_; (with_reducible refine (spec_l10Figure.calls (bt a0 a1) false _ A37.out).mono ?_); rintro e w' ⟨rfl, ⟨nd, rfl⟩⟩; refine ⟨_, rfl, ?_⟩; have p120 : 0 ≤ ((ji118) : Int) := oa; have q120 : (ji118) < (a0.size : Int) := oa; have hx120 := bt_at a0 (ji118); replace p120 := eq_true p120; replace q120 := eq_true q120))
                        go_meet
                        case rel => exact ⟨_, (0), ((⟨#[]⟩ : ByteArray)), H', ⟨by first | omega | exact Nat.le_refl _⟩, ⟨by (with_reducible repeat (first | refine blk_drewN ?_ _ | refine blk_drew ?_ | refine blk_alloc ?_ _)); exact BK259.out⟩, ⟨by repeat (first | (with_reducible first | exact HB.out | apply below_alloc | apply pw_below_drewN | apply below_drew1 | refine below_set ?_ GE259.out) | exact HB.out)⟩⟩
                    · rw [if_neg c119] at H
                      exact absurd H (by simp)
                  · rw [if_neg c117] at H
                    have c117b0 : decide ((wrap64 (a1 + 1)) < (a0.size : Int)) = false := decide_eq_false c117
                    clear c117
                    have H' := Aside0.mk H
                    clear H
                    go_wp2_with (first | ((with_reducible refine gate_callee (f := 27) rfl ?_); refine goesL_ (some 17) rfl rfl Try.func27 (by kernel_rfl) rfl #[.int .u8 (bt a0 a1)] rfl (by (try simp only [List.map_toArray, List.map_cons, List.map_nil]); first | done | rfl | (simp only [List.length_drop, List.length_take]; rfl)) ?_; (with_reducible refine (spec_l10Letter.calls (bt a0 a1) false _ A8.out).mono ?_); rintro e w' ⟨rfl, ⟨nd, rfl⟩⟩; refine ⟨_, rfl, ?_⟩) | ((with_reducible refine gate_callee (f := 28) rfl ?_); refine goesL_ (some 66) rfl rfl Try.func28 (by kernel_rfl) rfl #[.int .u8 (bt a0 a1)] rfl (by (try simp only [List.map_toArray, List.map_cons, List.map_nil]); first | done | rfl | (simp only [List.length_drop, List.length_take]; rfl)) ?_; (with_reducible refine (spec_l10Figure.calls (bt a0 a1) false _ A37.out).mono ?_); rintro e w' ⟨rfl, ⟨nd, rfl⟩⟩; refine ⟨_, rfl, ?_⟩))
                    go_meet
                    case rel => exact ⟨_, (0), ((⟨#[]⟩ : ByteArray)), H', ⟨by first | omega | exact Nat.le_refl _⟩, ⟨by (with_reducible repeat (first | refine blk_drewN ?_ _ | refine blk_drew ?_ | refine blk_alloc ?_ _)); exact BK259.out⟩, ⟨by repeat (first | (with_reducible first | exact HB.out | apply below_alloc | apply pw_below_drewN | apply below_drew1 | refine below_set ?_ GE259.out) | exact HB.out)⟩⟩
                · rw [if_neg c116] at H
                  have c116b0 : ((bt a0 a1) == 45) = false := beq_eq_false_iff_ne.mpr c116
                  have c116b1 : ((bt a0 a1) != 45) = true := bne_iff_ne.mpr c116
                  have H' := Aside0.mk H
                  clear H
                  go_wp2_with (first | ((with_reducible refine gate_callee (f := 27) rfl ?_); refine goesL_ (some 17) rfl rfl Try.func27 (by kernel_rfl) rfl #[.int .u8 (bt a0 a1)] rfl (by (try simp only [List.map_toArray, List.map_cons, List.map_nil]); first | done | rfl | (simp only [List.length_drop, List.length_take]; rfl)) ?_; (with_reducible refine (spec_l10Letter.calls (bt a0 a1) false _ A8.out).mono ?_); rintro e w' ⟨rfl, ⟨nd, rfl⟩⟩; refine ⟨_, rfl, ?_⟩) | ((with_reducible refine gate_callee (f := 28) rfl ?_); refine goesL_ (some 66) rfl rfl Try.func28 (by kernel_rfl) rfl #[.int .u8 (bt a0 a1)] rfl (by (try simp only [List.map_toArray, List.map_cons, List.map_nil]); first | done | rfl | (simp only [List.length_drop, List.length_take]; rfl)) ?_; (with_reducible refine (spec_l10Figure.calls (bt a0 a1) false _ A37.out).mono ?_); rintro e w' ⟨rfl, ⟨nd, rfl⟩⟩; refine ⟨_, rfl, ?_⟩))
                  go_meet
                  case rel => exact ⟨_, (0), ((⟨#[]⟩ : ByteArray)), H', ⟨by first | omega | exact Nat.le_refl _⟩, ⟨by (with_reducible repeat (first | refine blk_drewN ?_ _ | refine blk_drew ?_ | refine blk_alloc ?_ _)); exact BK259.out⟩, ⟨by repeat (first | (with_reducible first | exact HB.out | apply below_alloc | apply pw_below_drewN | apply below_drew1 | refine below_set ?_ GE259.out) | exact HB.out)⟩⟩
      case rest =>
        clear HC6
        try clear c1
        try clear p1
        try clear q1
        try clear hx1
        try clear c2
        try clear p2
        try clear q2
        try clear hx2
        try clear c3
        try clear c3b0
        try clear c4
        try clear c4b0
        try clear p4
        try clear q4
        try clear hx4
        try clear c5
        try clear p5
        try clear q5
        try clear hx5
        try clear c6
        try clear p6
        try clear q6
        try clear hx6
        try clear c7
        try clear p7
        try clear q7
        try clear hx7
        try clear c8
        try clear p8
        try clear q8
        try clear hx8
        try clear c9
        try clear c10
        try clear c11
        try clear c11b0
        try clear c12
        try clear c12b0
        try clear p12
        try clear q12
        try clear hx12
        try clear p13
        try clear q13
        try clear hx13
        try clear c15
        try clear c16
        try clear p16
        try clear q16
        try clear hx16
        try clear c18
        try clear c19
        try clear c19b0
        try clear c21
        try clear c21b0
        try clear c22
        try clear c22b0
        try clear p23
        try clear q23
        try clear hx23
        try clear c24
        try clear c24b0
        try clear c24b1
        try clear c25
        try clear c25b0
        try clear c25b1
        try clear c26
        try clear c26b0
        try clear c26b1
        try clear c27
        try clear c27b0
        try clear c27b1
        try clear c28
        try clear c29
        try clear c29b0
        try clear c29b1
        try clear c30
        try clear c30b0
        try clear c30b1
        try clear c31
        try clear c31b0
        try clear c31b1
        try clear c33
        try clear c33b0
        try clear c33b1
        try clear c34
        try clear c34b0
        try clear c34b1
        try clear c35
        try clear c35b0
        try clear c35b1
        try clear c38
        try clear c39
        try clear c39b0
        try clear c40
        try clear c40b0
        try clear p41
        try clear q41
        try clear hx41
        try clear c43
        try clear c44
        try clear c44b0
        try clear c46
        try clear c46b0
        try clear c46b1
        try clear c47
        try clear c47b0
        try clear c47b1
        try clear c48
        try clear c48b0
        try clear c48b1
        try clear c50
        try clear c50b0
        try clear c52
        try clear c52b0
        try clear c52b1
        try clear c53
        try clear c53b0
        try clear c53b1
        try clear c54
        try clear c54b0
        try clear c54b1
        try clear c56
        try clear c56b0
        try clear c56b1
        try clear c57
        try clear c57b0
        try clear c58
        try clear c58b0
        try clear p59
        try clear q59
        try clear hx59
        try clear c60
        try clear c60b0
        try clear c60b1
        try clear c61
        try clear c61b0
        try clear c61b1
        try clear p63
        try clear q63
        try clear hx63
        try clear p64
        try clear c65
        try clear c67
        try clear c67b0
        try clear c67b1
        try clear c68
        try clear c68b0
        try clear c68b1
        try clear c69
        try clear c69b0
        try clear c69b1
        try clear p72
        try clear q72
        try clear hx72
        try clear c73
        try clear c73b0
        try clear c73b1
        try clear c74
        try clear c74b0
        try clear c74b1
        try clear p76
        try clear q76
        try clear hx76
        try clear c78
        try clear c78b0
        try clear c78b1
        try clear c80
        try clear c81
        try clear c81b0
        try clear c81b1
        try clear c82
        try clear c82b0
        try clear c83
        try clear c83b0
        try clear p84
        try clear q84
        try clear hx84
        try clear c85
        try clear c85b0
        try clear c85b1
        try clear c86
        try clear c86b0
        try clear c86b1
        try clear c89
        try clear c89b0
        try clear c89b1
        try clear c90
        try clear c90b0
        try clear c90b1
        try clear c91
        try clear c91b0
        try clear c91b1
        try clear c93
        try clear c94
        try clear c94b0
        try clear c95
        try clear c95b0
        try clear c96
        try clear c96b0
        try clear c101
        try clear c101b0
        try clear c101b1
        try clear c104
        try clear c104b0
        try clear c104b1
        try clear c105
        try clear c105b0
        try clear c105b1
        try clear c106
        try clear c106b0
        try clear c106b1
        try clear c108
        try clear c109
        try clear c109b0
        try clear c110
        try clear c110b0
        try clear c111
        try clear c111b0
        try clear c116
        try clear c116b0
        try clear c116b1
        try clear c117
        try clear c117b0
        try clear c119
        try clear c119b0
        try clear p120
        try clear q120
        try clear hx120
        try clear c121
        try clear c121b0
        try clear c121b1
        try clear hcz100_0
        try clear hcz100_1
        try clear hcz102_0
        try clear hcz102_1
        try clear hcz113_0
        try clear hcz113_1
        try clear hcz115_0
        try clear hcz115_1
        try clear hcz122_0
        try clear hcz122_1
        try clear hcz20_0
        try clear hcz20_1
        try clear hcz28_0
        try clear hcz28_1
        try clear hcz32_0
        try clear hcz32_1
        try clear hcz36_0
        try clear hcz36_1
        try clear hcz45_0
        try clear hcz45_1
        try clear hcz49_0
        try clear hcz49_1
        try clear hcz51_0
        try clear hcz51_1
        try clear hcz55_0
        try clear hcz55_1
        try clear hcz62_0
        try clear hcz62_1
        try clear hcz70_0
        try clear hcz70_1
        try clear hcz71_0
        try clear hcz71_1
        try clear hcz75_0
        try clear hcz75_1
        try clear hcz77_0
        try clear hcz77_1
        try clear hcz79_0
        try clear hcz79_1
        try clear hcz87_0
        try clear hcz87_1
        try clear hcz98_0
        try clear hcz98_1
        try clear hfz100_0
        try clear hfz100_1
        try clear hfz102_0
        try clear hfz102_1
        try clear hfz113_0
        try clear hfz113_1
        try clear hfz115_0
        try clear hfz115_1
        try clear hfz122_0
        try clear hfz122_1
        try clear hfz20_0
        try clear hfz20_1
        try clear hfz28_0
        try clear hfz28_1
        try clear hfz32_0
        try clear hfz32_1
        try clear hfz36_0
        try clear hfz36_1
        try clear hfz45_0
        try clear hfz45_1
        try clear hfz49_0
        try clear hfz49_1
        try clear hfz51_0
        try clear hfz51_1
        try clear hfz55_0
        try clear hfz55_1
        try clear hfz62_0
        try clear hfz62_1
        try clear hfz70_0
        try clear hfz70_1
        try clear hfz71_0
        try clear hfz71_1
        try clear hfz75_0
        try clear hfz75_1
        try clear hfz77_0
        try clear hfz77_1
        try clear hfz79_0
        try clear hfz79_1
        try clear hfz87_0
        try clear hfz87_1
        try clear hfz98_0
        try clear hfz98_1
        try clear p1
        try clear p120
        try clear p13
        try clear p16
        try clear p2
        try clear p23
        try clear p4
        try clear p41
        try clear p5
        try clear p59
        try clear p6
        try clear p63
        try clear p64
        try clear p7
        try clear p72
        try clear p76
        try clear p84
        try clear q1
        try clear q120
        try clear q13
        try clear q16
        try clear q2
        try clear q23
        try clear q4
        try clear q41
        try clear q5
        try clear q59
        try clear q6
        try clear q63
        try clear q7
        try clear q72
        try clear q76
        try clear q84
        obtain ⟨kq, x260000_5, x260001_5, HA, HJ5, BK259, HB⟩ := hcut
        cases kq with
        | zero => exact absurd HA.out (by simp [spec_l10One.j5])
        | succ kj5 =>
          have H := HA.out
          clear HA
          simp only [spec_l10One.j5] at H
          have H' := Aside0.mk H
          clear H
          go_wp2
          go_loopg [9] kj5 (fun kq v9 w' => ∃ (x9_2 : Int) (x260000_2 : Int) (x260001_2 : ByteArray), v9 = .int .i64 x9_2 ∧ Aside0 (spec_l10One.l4 kq a0 a1 (bt a0 a1) (⟨#[40, 41, 123, 125, 124, 42, 43, 63, 58, 44, 59, 61, 64, 45, 47, 60, 38, 33]⟩ : ByteArray) x9_2 = some (r1, r2, r3)) ∧ Aside0 (kq ≤ kj5) ∧ Aside0 (w'.heap[gb259]? = some (.cells #[.int .i64 x260000_2, .string x260001_2] 29 (0, 0))) ∧ Aside0 (Below w.heap.size w w'))
          case atStart => exact ⟨(0), (x260000_5), (x260001_5), (by first | rfl | (simp; done) | (simp [*]; done) | (simp [isE0, isE1]; done)), H', ⟨Nat.le_refl _⟩, ⟨by (with_reducible repeat (first | refine blk_drewN ?_ _ | refine blk_drew ?_ | refine blk_alloc ?_ _)); exact BK259.out⟩, ⟨by repeat (first | (with_reducible first | exact HB.out | apply below_alloc | apply pw_below_drewN | apply below_drew1 | refine below_set ?_ GE259.out) | exact HB.out)⟩⟩
          case round =>
            clear H'
            try clear c1
            try clear p1
            try clear q1
            try clear hx1
            try clear c2
            try clear p2
            try clear q2
            try clear hx2
            try clear c3
            try clear c3b0
            try clear c4
            try clear c4b0
            try clear p4
            try clear q4
            try clear hx4
            try clear c5
            try clear p5
            try clear q5
            try clear hx5
            try clear c6
            try clear p6
            try clear q6
            try clear hx6
            try clear c7
            try clear p7
            try clear q7
            try clear hx7
            try clear c8
            try clear p8
            try clear q8
            try clear hx8
            try clear c9
            try clear c10
            try clear c11
            try clear c11b0
            try clear c12
            try clear c12b0
            try clear p12
            try clear q12
            try clear hx12
            try clear p13
            try clear q13
            try clear hx13
            try clear c15
            try clear c16
            try clear p16
            try clear q16
            try clear hx16
            try clear c18
            try clear c19
            try clear c19b0
            try clear c21
            try clear c21b0
            try clear c22
            try clear c22b0
            try clear p23
            try clear q23
            try clear hx23
            try clear c24
            try clear c24b0
            try clear c24b1
            try clear c25
            try clear c25b0
            try clear c25b1
            try clear c26
            try clear c26b0
            try clear c26b1
            try clear c27
            try clear c27b0
            try clear c27b1
            try clear c28
            try clear c29
            try clear c29b0
            try clear c29b1
            try clear c30
            try clear c30b0
            try clear c30b1
            try clear c31
            try clear c31b0
            try clear c31b1
            try clear c33
            try clear c33b0
            try clear c33b1
            try clear c34
            try clear c34b0
            try clear c34b1
            try clear c35
            try clear c35b0
            try clear c35b1
            try clear c38
            try clear c39
            try clear c39b0
            try clear c40
            try clear c40b0
            try clear p41
            try clear q41
            try clear hx41
            try clear c43
            try clear c44
            try clear c44b0
            try clear c46
            try clear c46b0
            try clear c46b1
            try clear c47
            try clear c47b0
            try clear c47b1
            try clear c48
            try clear c48b0
            try clear c48b1
            try clear c50
            try clear c50b0
            try clear c52
            try clear c52b0
            try clear c52b1
            try clear c53
            try clear c53b0
            try clear c53b1
            try clear c54
            try clear c54b0
            try clear c54b1
            try clear c56
            try clear c56b0
            try clear c56b1
            try clear c57
            try clear c57b0
            try clear c58
            try clear c58b0
            try clear p59
            try clear q59
            try clear hx59
            try clear c60
            try clear c60b0
            try clear c60b1
            try clear c61
            try clear c61b0
            try clear c61b1
            try clear p63
            try clear q63
            try clear hx63
            try clear p64
            try clear c65
            try clear c67
            try clear c67b0
            try clear c67b1
            try clear c68
            try clear c68b0
            try clear c68b1
            try clear c69
            try clear c69b0
            try clear c69b1
            try clear p72
            try clear q72
            try clear hx72
            try clear c73
            try clear c73b0
            try clear c73b1
            try clear c74
            try clear c74b0
            try clear c74b1
            try clear p76
            try clear q76
            try clear hx76
            try clear c78
            try clear c78b0
            try clear c78b1
            try clear c80
            try clear c81
            try clear c81b0
            try clear c81b1
            try clear c82
            try clear c82b0
            try clear c83
            try clear c83b0
            try clear p84
            try clear q84
            try clear hx84
            try clear c85
            try clear c85b0
            try clear c85b1
            try clear c86
            try clear c86b0
            try clear c86b1
            try clear c89
            try clear c89b0
            try clear c89b1
            try clear c90
            try clear c90b0
            try clear c90b1
            try clear c91
            try clear c91b0
            try clear c91b1
            try clear c93
            try clear c94
            try clear c94b0
            try clear c95
            try clear c95b0
            try clear c96
            try clear c96b0
            try clear c101
            try clear c101b0
            try clear c101b1
            try clear c104
            try clear c104b0
            try clear c104b1
            try clear c105
            try clear c105b0
            try clear c105b1
            try clear c106
            try clear c106b0
            try clear c106b1
            try clear c108
            try clear c109
            try clear c109b0
            try clear c110
            try clear c110b0
            try clear c111
            try clear c111b0
            try clear c116
            try clear c116b0
            try clear c116b1
            try clear c117
            try clear c117b0
            try clear c119
            try clear c119b0
            try clear p120
            try clear q120
            try clear hx120
            try clear c121
            try clear c121b0
            try clear c121b1
            try clear hcz100_0
            try clear hcz100_1
            try clear hcz102_0
            try clear hcz102_1
            try clear hcz113_0
            try clear hcz113_1
            try clear hcz115_0
            try clear hcz115_1
            try clear hcz122_0
            try clear hcz122_1
            try clear hcz20_0
            try clear hcz20_1
            try clear hcz28_0
            try clear hcz28_1
            try clear hcz32_0
            try clear hcz32_1
            try clear hcz36_0
            try clear hcz36_1
            try clear hcz45_0
            try clear hcz45_1
            try clear hcz49_0
            try clear hcz49_1
            try clear hcz51_0
            try clear hcz51_1
            try clear hcz55_0
            try clear hcz55_1
            try clear hcz62_0
            try clear hcz62_1
            try clear hcz70_0
            try clear hcz70_1
            try clear hcz71_0
            try clear hcz71_1
            try clear hcz75_0
            try clear hcz75_1
            try clear hcz77_0
            try clear hcz77_1
            try clear hcz79_0
            try clear hcz79_1
            try clear hcz87_0
            try clear hcz87_1
            try clear hcz98_0
            try clear hcz98_1
            try clear hfz100_0
            try clear hfz100_1
            try clear hfz102_0
            try clear hfz102_1
            try clear hfz113_0
            try clear hfz113_1
            try clear hfz115_0
            try clear hfz115_1
            try clear hfz122_0
            try clear hfz122_1
            try clear hfz20_0
            try clear hfz20_1
            try clear hfz28_0
            try clear hfz28_1
            try clear hfz32_0
            try clear hfz32_1
            try clear hfz36_0
            try clear hfz36_1
            try clear hfz45_0
            try clear hfz45_1
            try clear hfz49_0
            try clear hfz49_1
            try clear hfz51_0
            try clear hfz51_1
            try clear hfz55_0
            try clear hfz55_1
            try clear hfz62_0
            try clear hfz62_1
            try clear hfz70_0
            try clear hfz70_1
            try clear hfz71_0
            try clear hfz71_1
            try clear hfz75_0
            try clear hfz75_1
            try clear hfz77_0
            try clear hfz77_1
            try clear hfz79_0
            try clear hfz79_1
            try clear hfz87_0
            try clear hfz87_1
            try clear hfz98_0
            try clear hfz98_1
            try clear p1
            try clear p12
            try clear p120
            try clear p13
            try clear p16
            try clear p2
            try clear p23
            try clear p4
            try clear p41
            try clear p5
            try clear p59
            try clear p6
            try clear p63
            try clear p64
            try clear p7
            try clear p72
            try clear p76
            try clear p8
            try clear p84
            try clear q1
            try clear q12
            try clear q120
            try clear q13
            try clear q16
            try clear q2
            try clear q23
            try clear q4
            try clear q41
            try clear q5
            try clear q59
            try clear q6
            try clear q63
            try clear q7
            try clear q72
            try clear q76
            try clear q8
            try clear q84
            obtain ⟨x9_2, x260000_2, x260001_2, rfl, HA, HK2, BK259, HB⟩ := hrel
            cases gk with
            | zero => exact absurd HA.out (by simp [spec_l10One.l4])
            | succ k2 =>
              have H := HA.out
              clear HA
              simp only [spec_l10One.l4] at H
              by_cases c123 : x9_2 < ((⟨#[40, 41, 123, 125, 124, 42, 43, 63, 58, 44, 59, 61, 64, 45, 47, 60, 38, 33]⟩ : ByteArray).size : Int)
              · rw [if_pos c123] at H
                have c123b0 : decide (x9_2 < ((⟨#[40, 41, 123, 125, 124, 42, 43, 63, 58, 44, 59, 61, 64, 45, 47, 60, 38, 33]⟩ : ByteArray).size : Int)) = true := decide_eq_true c123
                try have c123b0z : decide (x9_2 < 18) = true := decide_eq_true c123
                (try (have c123b1 : decide (x9_2 < 18) = true := decide_eq_true c123))
                clear c123
                by_cases c124 : 0 ≤ x9_2
                · rw [if_pos c124] at H
                  have c124b0 : decide (0 ≤ x9_2) = true := decide_eq_true c124
                  clear c124
                  by_cases c126 : (bt (⟨#[40, 41, 123, 125, 124, 42, 43, 63, 58, 44, 59, 61, 64, 45, 47, 60, 38, 33]⟩ : ByteArray) x9_2) = (bt a0 a1)
                  · rw [if_pos c126] at H
                    have c126b0 : ((bt (⟨#[40, 41, 123, 125, 124, 42, 43, 63, 58, 44, 59, 61, 64, 45, 47, 60, 38, 33]⟩ : ByteArray) x9_2) == (bt a0 a1)) = true := beq_iff_eq.mpr c126
                    have c126b1 : ((bt (⟨#[40, 41, 123, 125, 124, 42, 43, 63, 58, 44, 59, 61, 64, 45, 47, 60, 38, 33]⟩ : ByteArray) x9_2) != (bt a0 a1)) = false := bne_eq_false_iff_eq.mpr c126
                    clear c126
                    by_cases c127 : 0 ≤ a1
                    · rw [if_pos c127] at H
                      have c127b0 := eq_true c127
                      have c127b1 : decide (0 ≤ a1) = true := decide_eq_true c127
                      clear c127
                      by_cases c128 : a1 ≤ (wrap64 (a1 + 1))
                      · rw [if_pos c128] at H
                        have c128b0 := eq_true c128
                        have c128b1 : decide (a1 ≤ (wrap64 (a1 + 1))) = true := decide_eq_true c128
                        by_cases c129 : (wrap64 (a1 + 1)) ≤ (a0.size : Int)
                        · rw [if_pos c129] at H
                          have c129b0 := eq_true c129
                          have c129b1 : decide ((wrap64 (a1 + 1)) ≤ (a0.size : Int)) = true := decide_eq_true c129
                          simp only [Option.some.injEq, Prod.mk.injEq] at H
                          obtain ⟨rfl, rfl, rfl⟩ := H
                          have p125 : 0 ≤ (x9_2 : Int) := oa
                          have q125 : x9_2 < (18 : Int) := oa
                          have hx125 := bt_at (⟨#[40, 41, 123, 125, 124, 42, 43, 63, 58, 44, 59, 61, 64, 45, 47, 60, 38, 33]⟩ : ByteArray) x9_2
                          replace p125 := eq_true p125
                          replace q125 := eq_true q125
                          obtain ⟨hcz130_0, hcz130_1, hfz130_0, hfz130_1⟩ := bc2 BK259.out
                          go_wp2
                          refine bodyPost_ret (results_ct rfl _ _ gb259 29 #[.int .i64 5, .string (a0.extract (a1 : Int).toNat ((wrap64 (a1 + 1)) : Int).toNat)] (0, 0) _ rfl bx Try.underlying29 rfl (by kernel_rfl)) rfl ?_
                          exact ⟨by first | rfl | (simp [errW_none, errW_some] <;> rfl) | (simp [*, errW_none, errW_some] <;> rfl), by repeat (first | (with_reducible first | exact HB.out | apply below_alloc | apply pw_below_drewN | apply below_drew1 | refine below_set ?_ GE259.out) | exact HB.out)⟩
                        · rw [if_neg c129] at H
                          exact absurd H (by simp)
                      · rw [if_neg c128] at H
                        exact absurd H (by simp)
                    · rw [if_neg c127] at H
                      exact absurd H (by simp)
                  · rw [if_neg c126] at H
                    have c126b0 : ((bt (⟨#[40, 41, 123, 125, 124, 42, 43, 63, 58, 44, 59, 61, 64, 45, 47, 60, 38, 33]⟩ : ByteArray) x9_2) == (bt a0 a1)) = false := beq_eq_false_iff_ne.mpr c126
                    have c126b1 : ((bt (⟨#[40, 41, 123, 125, 124, 42, 43, 63, 58, 44, 59, 61, 64, 45, 47, 60, 38, 33]⟩ : ByteArray) x9_2) != (bt a0 a1)) = true := bne_iff_ne.mpr c126
                    have H' := Aside0.mk H
                    clear H
                    have p125 : 0 ≤ (x9_2 : Int) := oa
                    have q125 : x9_2 < (18 : Int) := oa
                    have hx125 := bt_at (⟨#[40, 41, 123, 125, 124, 42, 43, 63, 58, 44, 59, 61, 64, 45, 47, 60, 38, 33]⟩ : ByteArray) x9_2
                    replace p125 := eq_true p125
                    replace q125 := eq_true q125
                    go_wp2
                    go_roundg k2
                    case measure => have := HJ5.out; have := HK2.out; omega
                    case rel => exact ⟨(wrap64 (x9_2 + 1)), (x260000_2), (x260001_2), (by first | rfl | (simp; done) | (simp [*]; done) | (simp [isE0, isE1]; done)), H', ⟨by have := HJ5.out; have := HK2.out; omega⟩, ⟨by (with_reducible repeat (first | refine blk_drewN ?_ _ | refine blk_drew ?_ | refine blk_alloc ?_ _)); exact BK259.out⟩, ⟨by repeat (first | (with_reducible first | exact HB.out | apply below_alloc | apply pw_below_drewN | apply below_drew1 | refine below_set ?_ GE259.out) | exact HB.out)⟩⟩
                · rw [if_neg c124] at H
                  exact absurd H (by simp)
              · rw [if_neg c123] at H
                have c123b0 : decide (x9_2 < ((⟨#[40, 41, 123, 125, 124, 42, 43, 63, 58, 44, 59, 61, 64, 45, 47, 60, 38, 33]⟩ : ByteArray).size : Int)) = false := decide_eq_false c123
                try have c123b0z : decide (x9_2 < 18) = false := decide_eq_false c123
                (try (have c123b1 : decide (x9_2 < 18) = false := decide_eq_false c123))
                clear c123
                simp only [Option.some.injEq, Prod.mk.injEq] at H
                obtain ⟨rfl, rfl, rfl⟩ := H
                obtain ⟨hcz131_0, hcz131_1, hfz131_0, hfz131_1⟩ := bc2 BK259.out
                go_wp2
                refine bodyPost_ret (results_ct rfl _ _ gb259 29 #[.int .i64 0, .string (⟨#[]⟩ : ByteArray)] (0, 0) _ rfl bx Try.underlying29 rfl (by kernel_rfl)) rfl ?_
                exact ⟨by first | rfl | (simp [errW_none, errW_some] <;> rfl) | (simp [*, errW_none, errW_some] <;> rfl), by repeat (first | (with_reducible first | exact HB.out | apply below_alloc | apply pw_below_drewN | apply below_drew1 | refine below_set ?_ GE259.out) | exact HB.out)⟩
    · rw [if_neg c4] at H
      exact absurd H (by simp)
  · rw [if_neg c3] at H
    exact absurd H (by simp)

end Go.Proofs.Ytceimgnkkclebaa.PFnTokenFaults
