/- Written by a program of this session out of Lean's print of the translation: what the calls of these Go functions come to, in plain Lean. No condition. -/
import Derived.Test.YtlkbdoejeomlmaaPFnParenthesesx0
import Derived.Test.YtlkbdoejeomlmaaPFnParenthesesx5
namespace Go.Proofs.Ytlkbdoejeomlmaa.PFnParentheses
open Go.RowKit Go.Proofs.YtlkbdoejeomlmaaW.PrintWords Go.Proofs.YtlkbdoejeomlmaaW.PrintLast Go.Proofs.YtlkbdoejeomlmaaW.PrintMore
attribute [local go_sem] max2_int min2_int max_two min_two max_three min_three max_four min_four   -- for this text's walks alone
set_option linter.unusedVariables false
set_option linter.unusedSimpArgs false

/-! ### impl_climber_first: function 150 -/
def impl_climber_first.j0 (Fn_ : List (S128) → ByteArray → Bool → Int → Option (ByteArray × ByteArray × Bool)) : Nat → Bool → List (S128) → ByteArray → Bool → Option (ByteArray × ByteArray × Bool)
  | 0, _, _, _, _ => none
  | k + 1, x32, x1000, x1001, x1002 => if x32 = true then (some ((⟨#[]⟩ : ByteArray), x1001, true)) else (if 0 ≤ 1 then (if 1 ≤ (x1001.size : Int) then (if (x1001.extract 0 1).toList = ([40] : List UInt8) then ((Fn_ x1000 (x1001.extract 1 x1001.size) x1002 0).bind fun bt230 => ((strings_HasPrefix.f bt230.2.1 (⟨#[41]⟩ : ByteArray)).bind fun t233 => (if t233 = true then (if 1 ≤ (bt230.2.1.size : Int) then (some (bt230.1, bt230.2.1.extract 1 bt230.2.1.size, bt230.2.2)) else (none)) else (some ((⟨#[]⟩ : ByteArray), bt230.2.1, true))))) else (some (x1001.extract 0 1, x1001.extract 1 x1001.size, x1002))) else (none)) else (none))
def impl_climber_first.f (Fn_ : List (S128) → ByteArray → Bool → Int → Option (ByteArray × ByteArray × Bool)) (k : Nat) (s0_0 : List (S128)) (s0_1 : ByteArray) (s0_2 : Bool) : Option (ByteArray × ByteArray × Bool) := if s0_2 = true then (impl_climber_first.j0 Fn_ k true s0_0 s0_1 s0_2) else (if s0_1.toList = ([] : List UInt8) then (impl_climber_first.j0 Fn_ k true s0_0 s0_1 s0_2) else (if 0 < (s0_1.size : Int) then ((impl_isFigure.f (bt s0_1 0)).bind fun t229 => (if t229 = true then (impl_climber_first.j0 Fn_ k false s0_0 s0_1 s0_2) else (impl_climber_first.j0 Fn_ k ((bt s0_1 0) != 40) s0_0 s0_1 s0_2))) else (none)))
theorem impl_climber_first.mono_l {Fn_ Fm_ : List (S128) → ByteArray → Bool → Int → Option (ByteArray × ByteArray × Bool)} (hF : ∀ y0 y1 y2 y3, LeO (Fn_ y0 y1 y2 y3) (Fm_ y0 y1 y2 y3)) : ∀ k, (∀ y0 y1 y2 y3, LeO (impl_climber_first.j0 Fn_ k y0 y1 y2 y3) (impl_climber_first.j0 Fm_ (k + 1) y0 y1 y2 y3))
  | 0 => fun _ _ _ _ r h => by simp [impl_climber_first.j0] at h
  | k + 1 => by
    have ih0 := impl_climber_first.mono_l hF k
    · intro y0 y1 y2 y3
      unfold impl_climber_first.j0
      repeat' first
      | (with_reducible exact ih0 _ _ _ _)
      | (with_reducible exact hF _ _ _ _)
      | (with_reducible exact LeO.refl _)
      | (with_reducible exact LeO.none _)
      | (with_reducible refine LeO.ite ?_ ?_)
      | (with_reducible refine LeO.bind ?_ (fun _ => ?_))
      | exact ih0 _ _ _ _
      | exact hF _ _ _ _
      | exact LeO.none _
      | refine LeO.ite ?_ ?_
      | refine LeO.bind ?_ (fun _ => ?_)
theorem impl_climber_first.mono {Fn_ Fm_ : List (S128) → ByteArray → Bool → Int → Option (ByteArray × ByteArray × Bool)} (hF : ∀ y0 y1 y2 y3, LeO (Fn_ y0 y1 y2 y3) (Fm_ y0 y1 y2 y3)) : ∀ a0 a1 a2 k, LeO (impl_climber_first.f Fn_ k a0 a1 a2) (impl_climber_first.f Fm_ (k + 1) a0 a1 a2) := by
  intro a0 a1 a2 k
  have ih0 := impl_climber_first.mono_l hF k
  unfold impl_climber_first.f
  repeat' first
      | (with_reducible exact ih0 _ _ _ _)
      | (with_reducible exact hF _ _ _ _)
      | (with_reducible exact LeO.refl _)
      | (with_reducible exact LeO.none _)
      | (with_reducible refine LeO.ite ?_ ?_)
      | (with_reducible refine LeO.bind ?_ (fun _ => ?_))
      | exact ih0 _ _ _ _
      | exact hF _ _ _ _
      | exact LeO.none _
      | refine LeO.ite ?_ ?_
      | refine LeO.bind ?_ (fun _ => ?_)
set_option maxHeartbeats 8000000 in
set_option maxRecDepth 100000 in
theorem impl_climber_first.calls (Fn_ : List (S128) → ByteArray → Bool → Int → Option (ByteArray × ByteArray × Bool)) (IHn_ : ∀ (g : Nat) (s0_0 : List (S128)) (s0_1 : ByteArray) (s0_2 : Bool) (a1 : Int) (r1 : ByteArray) (r2 : ByteArray) (r3 : Bool) (w0 w : World) (hI : IsS126 w0 w g s0_0 s0_1 s0_2) (hB : Below w0.heap.size w0 w) (h : Fn_ s0_0 s0_1 s0_2 a1 = some (r1, r2, r3)), Calls Try.prog 84 #[.pointer (some ⟨g, 0, none⟩), .int .i64 a1] w fun e w' => e = .returned (.string r1) ∧ IsS126 w0 w' g s0_0 r2 r3 ∧ Below w0.heap.size w0 w' ∧ KeepBut w w' g none) (k : Nat) (g : Nat) (s0_0 : List (S128)) (s0_1 : ByteArray) (s0_2 : Bool) (r1 : ByteArray) (r2 : ByteArray) (r3 : Bool) (w0 w : World) (hI : IsS126 w0 w g s0_0 s0_1 s0_2) (hB : Below w0.heap.size w0 w) (h : impl_climber_first.f Fn_ k s0_0 s0_1 s0_2 = some (r1, r2, r3)) :
    Calls Try.prog 150 #[.pointer (some ⟨g, 0, none⟩)] w fun e w' => e = .returned (.string r1) ∧ IsS126 w0 w' g s0_0 r2 r3 ∧ Below w0.heap.size w0 w' ∧ KeepBut w w' g none := by
  have HI0 := Aside0.mk hI
  have HK := Aside0.mk (KeepBut.refl w g none)
  have HL := Aside0.mk hB.size
  clear hI
  have HW0 := Aside0.mk hB.size
  have HB := Aside0.mk hB
  clear hB
  have H : (if s0_2 = true then (impl_climber_first.j0 Fn_ k true s0_0 s0_1 s0_2) else (if s0_1.toList = ([] : List UInt8) then (impl_climber_first.j0 Fn_ k true s0_0 s0_1 s0_2) else (if 0 < (s0_1.size : Int) then ((impl_isFigure.f (bt s0_1 0)).bind fun t229 => (if t229 = true then (impl_climber_first.j0 Fn_ k false s0_0 s0_1 s0_2) else (impl_climber_first.j0 Fn_ k ((bt s0_1 0) != 40) s0_0 s0_1 s0_2))) else (none)))) = some (r1, r2, r3) := h
  clear h
  have HC2 := Aside0.mk H
  clear H
  go_enter Try.func150, Try.ntmps150
  go_upto_region 1 with (fail)
  go_cut [32] (fun v32 wc => ∃ (kq : Nat) (x32_1 : Bool), v32 = .bool x32_1 ∧ Aside0 (impl_climber_first.j0 Fn_ kq x32_1 s0_0 s0_1 s0_2 = some (r1, r2, r3)) ∧ Aside0 (kq ≤ k) ∧ Aside0 (IsS126 w0 wc g s0_0 s0_1 s0_2) ∧ Aside0 (KeepBut w wc g none) ∧ Aside0 (Below w0.heap.size w0 wc))
  case first =>
    have H := HC2.out
    clear HC2
    by_cases c3 : s0_2 = true
    · subst c3
      have H1 : (impl_climber_first.j0 Fn_ k true s0_0 s0_1 true) = some (r1, r2, r3) := by rw [if_pos rfl] at H; exact H
      clear H
      have H := H1
      clear H1
      have H' := Aside0.mk H
      clear H
      obtain ⟨ASz4_0, cSz4_0, HGz4, hgz4, HSz4_0⟩ := HI0.out
      have hcz4_0 := cellS126_0 HGz4
      have hcz4_1 := cellS126_1 HGz4
      have hcz4_2 := cellS126_2 HGz4
      have hfz4_1 := blk_frozen HGz4 1
      have hfz4_2 := blk_frozen HGz4 2
      clear HGz4 hgz4
      go_wp2
      go_meet
      case rel => exact ⟨_, (true), (by first | rfl | (simp; done) | (simp [*]; done) | (simp [isE0, isE1]; done)), H', ⟨by first | omega | exact Nat.le_refl _⟩, ⟨by repeat (first | (with_reducible first | exact HI0.out | apply IsS126.alloc | apply IsS126.drewN | apply IsS126.drew | apply IsS126.set_1 | apply IsS126.set_2) | exact HI0.out)⟩, ⟨by repeat (first | (with_reducible first | exact HK.out | apply KeepBut.set_ | apply keep_drewN | apply keep_drew | apply keep_alloc) | exact HK.out)⟩, ⟨by repeat (first | (with_reducible first | exact HB.out | apply below_alloc | apply pw_below_drewN | apply below_drew1 | refine below_set ?_ (IsS126.ge HI0.out)) | exact HB.out)⟩⟩
    · replace c3 := Bool.eq_false_iff.mpr c3
      subst c3
      have H1 : (if s0_1.toList = ([] : List UInt8) then (impl_climber_first.j0 Fn_ k true s0_0 s0_1 false) else (if 0 < (s0_1.size : Int) then ((impl_isFigure.f (bt s0_1 0)).bind fun t229 => (if t229 = true then (impl_climber_first.j0 Fn_ k false s0_0 s0_1 false) else (impl_climber_first.j0 Fn_ k ((bt s0_1 0) != 40) s0_0 s0_1 false))) else (none))) = some (r1, r2, r3) := by rw [if_neg (show ¬ (false = true) by decide)] at H; exact H
      clear H
      have H := H1
      clear H1
      by_cases c5 : s0_1.toList = ([] : List UInt8)
      · rw [if_pos c5] at H
        have c5b0 : (s0_1.toList == ([] : List UInt8)) = true := beq_iff_eq.mpr c5
        have c5b1 : (s0_1.toList != ([] : List UInt8)) = false := bne_eq_false_iff_eq.mpr c5
        clear c5
        (first | rw [c5b0] | (simp only [i64_w, i32_w]; rw [c5b0]) | skip)
        have H' := Aside0.mk H
        clear H
        obtain ⟨ASz6_0, cSz6_0, HGz6, hgz6, HSz6_0⟩ := HI0.out
        have hcz6_0 := cellS126_0 HGz6
        have hcz6_1 := cellS126_1 HGz6
        have hcz6_2 := cellS126_2 HGz6
        have hfz6_1 := blk_frozen HGz6 1
        have hfz6_2 := blk_frozen HGz6 2
        clear HGz6 hgz6
        go_wp2
        go_meet
        case rel => exact ⟨_, (true), (by first | rfl | (simp; done) | (simp [*]; done) | (simp [isE0, isE1]; done)), H', ⟨by first | omega | exact Nat.le_refl _⟩, ⟨by repeat (first | (with_reducible first | exact HI0.out | apply IsS126.alloc | apply IsS126.drewN | apply IsS126.drew | apply IsS126.set_1 | apply IsS126.set_2) | exact HI0.out)⟩, ⟨by repeat (first | (with_reducible first | exact HK.out | apply KeepBut.set_ | apply keep_drewN | apply keep_drew | apply keep_alloc) | exact HK.out)⟩, ⟨by repeat (first | (with_reducible first | exact HB.out | apply below_alloc | apply pw_below_drewN | apply below_drew1 | refine below_set ?_ (IsS126.ge HI0.out)) | exact HB.out)⟩⟩
      · rw [if_neg c5] at H
        have c5b0 : (s0_1.toList == ([] : List UInt8)) = false := beq_eq_false_iff_ne.mpr c5
        have c5b1 : (s0_1.toList != ([] : List UInt8)) = true := bne_iff_ne.mpr c5
        (first | rw [c5b0] | (simp only [i64_w, i32_w]; rw [c5b0]) | skip)
        by_cases c7 : 0 < (s0_1.size : Int)
        · rw [if_pos c7] at H
          have c7b0 : decide (0 < (s0_1.size : Int)) = true := decide_eq_true c7
          have c7b1 : decide (0 < s0_1.size) = true := decide_eq_true (by omega)
          clear c7
          replace H := Option.bind_eq_some_iff.mp H
          obtain ⟨t229, A90, H⟩ := H
          replace H : (if t229 = true then (impl_climber_first.j0 Fn_ k false s0_0 s0_1 false) else (impl_climber_first.j0 Fn_ k ((bt s0_1 0) != 40) s0_0 s0_1 false)) = some (r1, r2, r3) := H
          have A9 := Aside0.mk A90
          clear A90
          by_cases c10 : t229 = true
          · subst c10
            have H1 : (impl_climber_first.j0 Fn_ k false s0_0 s0_1 false) = some (r1, r2, r3) := by rw [if_pos rfl] at H; exact H
            clear H
            have H := H1
            clear H1
            have H' := Aside0.mk H
            clear H
            obtain ⟨ASz11_0, cSz11_0, HGz11, hgz11, HSz11_0⟩ := HI0.out
            have hcz11_0 := cellS126_0 HGz11
            have hcz11_1 := cellS126_1 HGz11
            have hcz11_2 := cellS126_2 HGz11
            have hfz11_1 := blk_frozen HGz11 1
            have hfz11_2 := blk_frozen HGz11 2
            clear HGz11 hgz11
            have p8 : 0 ≤ (0 : Int) := (by omega)
            have q8 : 0 < s0_1.size := (by have : (0 : Int) < (s0_1.size : Int) := oa; omega)
            have hx8 : ∀ h : 0 < s0_1.size, ((s0_1[0]'h).toNat : Int) = bt s0_1 0 := bt_at s0_1 0
            clear p8
            have qi8 : (0 < (s0_1.size : Int)) = True := eq_true (oa)
            replace q8 := eq_true q8
            go_wp2_with (first | (go_at_call 181; (with_reducible refine (impl_isFigure.calls (bt s0_1 0) true _ A9.out).mono ?_); rintro e w' ⟨rfl, ⟨nd, rfl⟩⟩))
            go_meet
            case rel => exact ⟨_, (false), (by first | rfl | (simp; done) | (simp [*]; done) | (simp [isE0, isE1]; done)), H', ⟨by first | omega | exact Nat.le_refl _⟩, ⟨by repeat (first | (with_reducible first | exact HI0.out | apply IsS126.alloc | apply IsS126.drewN | apply IsS126.drew | apply IsS126.set_1 | apply IsS126.set_2) | exact HI0.out)⟩, ⟨by repeat (first | (with_reducible first | exact HK.out | apply KeepBut.set_ | apply keep_drewN | apply keep_drew | apply keep_alloc) | exact HK.out)⟩, ⟨by repeat (first | (with_reducible first | exact HB.out | apply below_alloc | apply pw_below_drewN | apply below_drew1 | refine below_set ?_ (IsS126.ge HI0.out)) | exact HB.out)⟩⟩
          · replace c10 := Bool.eq_false_iff.mpr c10
            subst c10
            have H1 : (impl_climber_first.j0 Fn_ k ((bt s0_1 0) != 40) s0_0 s0_1 false) = some (r1, r2, r3) := by rw [if_neg (show ¬ (false = true) by decide)] at H; exact H
            clear H
            have H := H1
            clear H1
            have H' := Aside0.mk H
            clear H
            obtain ⟨ASz13_0, cSz13_0, HGz13, hgz13, HSz13_0⟩ := HI0.out
            have hcz13_0 := cellS126_0 HGz13
            have hcz13_1 := cellS126_1 HGz13
            have hcz13_2 := cellS126_2 HGz13
            have hfz13_1 := blk_frozen HGz13 1
            have hfz13_2 := blk_frozen HGz13 2
            clear HGz13 hgz13
            have p8 : 0 ≤ (0 : Int) := (by omega)
            have q8 : 0 < s0_1.size := (by have : (0 : Int) < (s0_1.size : Int) := oa; omega)
            have hx8 : ∀ h : 0 < s0_1.size, ((s0_1[0]'h).toNat : Int) = bt s0_1 0 := bt_at s0_1 0
            clear p8
            have qi8 : (0 < (s0_1.size : Int)) = True := eq_true (oa)
            replace q8 := eq_true q8
            go_wp2_with (first | (go_at_call 181; (with_reducible refine (impl_isFigure.calls (bt s0_1 0) false _ A9.out).mono ?_); rintro e w' ⟨rfl, ⟨nd, rfl⟩⟩; have p12 : 0 ≤ (0 : Int) := (by omega); have q12 : 0 < s0_1.size := (by have : (0 : Int) < (s0_1.size : Int) := oa; omega); have hx12 : ∀ h : 0 < s0_1.size, ((s0_1[0]'h).toNat : Int) = bt s0_1 0 := bt_at s0_1 0; clear p12; have qi12 : (0 < (s0_1.size : Int)) = True := eq_true (oa); replace q12 := eq_true q12))
            go_meet
            case rel => exact ⟨_, (((bt s0_1 0) != 40)), (by first | rfl | (simp; done) | (simp [*]; done) | (simp [isE0, isE1]; done)), H', ⟨by first | omega | exact Nat.le_refl _⟩, ⟨by repeat (first | (with_reducible first | exact HI0.out | apply IsS126.alloc | apply IsS126.drewN | apply IsS126.drew | apply IsS126.set_1 | apply IsS126.set_2) | exact HI0.out)⟩, ⟨by repeat (first | (with_reducible first | exact HK.out | apply KeepBut.set_ | apply keep_drewN | apply keep_drew | apply keep_alloc) | exact HK.out)⟩, ⟨by repeat (first | (with_reducible first | exact HB.out | apply below_alloc | apply pw_below_drewN | apply below_drew1 | refine below_set ?_ (IsS126.ge HI0.out)) | exact HB.out)⟩⟩
        · rw [if_neg c7] at H
          exact absurd H (by simp)
  case rest =>
    clear HC2
    try clear c1
    try clear p1
    try clear q1
    try clear hx1
    try clear qi1
    try clear p2
    try clear c3
    try clear c5
    try clear c5b0
    try clear c5b1
    try clear c7
    try clear c7b0
    try clear c7b1
    try clear p8
    try clear q8
    try clear hx8
    try clear qi8
    try clear c10
    try clear p12
    try clear q12
    try clear hx12
    try clear qi12
    try clear hcz11_0
    try clear hcz11_1
    try clear hcz11_2
    try clear hcz13_0
    try clear hcz13_1
    try clear hcz13_2
    try clear hcz4_0
    try clear hcz4_1
    try clear hcz4_2
    try clear hcz6_0
    try clear hcz6_1
    try clear hcz6_2
    try clear hfz11_1
    try clear hfz11_2
    try clear hfz13_1
    try clear hfz13_2
    try clear hfz4_1
    try clear hfz4_2
    try clear hfz6_1
    try clear hfz6_2
    try clear p12
    try clear p8
    try clear q12
    try clear q8
    obtain ⟨kq, x32_1, rfl, HA, HJ1, HI0, HK, HB⟩ := hcut
    cases kq with
    | zero => exact absurd HA.out (by simp [impl_climber_first.j0])
    | succ kj1 =>
      have H := HA.out
      clear HA
      simp only [impl_climber_first.j0] at H
      by_cases c14 : x32_1 = true
      · subst c14
        have H1 : (some ((⟨#[]⟩ : ByteArray), s0_1, true)) = some (r1, r2, r3) := by rw [if_pos rfl] at H; exact H
        clear H
        have H := H1
        clear H1
        simp only [Option.some.injEq, Prod.mk.injEq] at H
        obtain ⟨rfl, rfl, rfl⟩ := H
        obtain ⟨ASz15_0, cSz15_0, HGz15, hgz15, HSz15_0⟩ := HI0.out
        have hcz15_0 := cellS126_0 HGz15
        have hcz15_1 := cellS126_1 HGz15
        have hcz15_2 := cellS126_2 HGz15
        have hfz15_1 := blk_frozen HGz15 1
        have hfz15_2 := blk_frozen HGz15 2
        clear HGz15 hgz15
        go_wp2
        go_ret
        exact ⟨by first | rfl | (simp [errW_none, errW_some] <;> rfl) | (simp [*, errW_none, errW_some] <;> rfl), by repeat (first | (with_reducible first | exact HI0.out | apply IsS126.alloc | apply IsS126.drewN | apply IsS126.drew | apply IsS126.set_1 | apply IsS126.set_2) | exact HI0.out), by repeat (first | (with_reducible first | exact HB.out | apply below_alloc | apply pw_below_drewN | apply below_drew1 | refine below_set ?_ (IsS126.ge HI0.out)) | exact HB.out), by repeat (first | (with_reducible first | exact HK.out | apply KeepBut.set_ | apply keep_drewN | apply keep_drew | apply keep_alloc) | exact HK.out)⟩
      · replace c14 := Bool.eq_false_iff.mpr c14
        subst c14
        have H1 : (if 0 ≤ 1 then (if 1 ≤ (s0_1.size : Int) then (if (s0_1.extract 0 1).toList = ([40] : List UInt8) then ((Fn_ s0_0 (s0_1.extract 1 s0_1.size) s0_2 0).bind fun bt230 => ((strings_HasPrefix.f bt230.2.1 (⟨#[41]⟩ : ByteArray)).bind fun t233 => (if t233 = true then (if 1 ≤ (bt230.2.1.size : Int) then (some (bt230.1, bt230.2.1.extract 1 bt230.2.1.size, bt230.2.2)) else (none)) else (some ((⟨#[]⟩ : ByteArray), bt230.2.1, true))))) else (some (s0_1.extract 0 1, s0_1.extract 1 s0_1.size, s0_2))) else (none)) else (none)) = some (r1, r2, r3) := by rw [if_neg (show ¬ (false = true) by decide)] at H; exact H
        clear H
        have H := H1
        clear H1
        by_cases c16 : 0 ≤ 1
        · rw [if_pos c16] at H
          have c16b0 := eq_true c16
          have c16b1 : decide (0 ≤ 1) = true := decide_eq_true c16
          clear c16
          by_cases c17 : 1 ≤ (s0_1.size : Int)
          · rw [if_pos c17] at H
            have c17b0 := eq_true c17
            have c17b1 : decide (1 ≤ (s0_1.size : Int)) = true := decide_eq_true c17
            clear c17
            have c18b0 := eq_true (oa : 1 ≤ (s0_1.size : Int))
            by_cases c19 : (s0_1.extract 0 1).toList = ([40] : List UInt8)
            · rw [if_pos c19] at H
              have c19b0 : ((s0_1.extract 0 1).toList == ([40] : List UInt8)) = true := beq_iff_eq.mpr c19
              have c19b1 : ((s0_1.extract 0 1).toList != ([40] : List UInt8)) = false := bne_eq_false_iff_eq.mpr c19
              clear c19
              replace H := Option.bind_eq_some_iff.mp H
              obtain ⟨⟨t230, t231, t232⟩, A200, H⟩ := H
              replace H : ((strings_HasPrefix.f t231 (⟨#[41]⟩ : ByteArray)).bind fun t233 => (if t233 = true then (if 1 ≤ (t231.size : Int) then (some (t230, t231.extract 1 t231.size, t232)) else (none)) else (some ((⟨#[]⟩ : ByteArray), t231, true)))) = some (r1, r2, r3) := H
              have A20 := Aside0.mk A200
              clear A200
              replace H := Option.bind_eq_some_iff.mp H
              obtain ⟨t233, A210, H⟩ := H
              replace H : (if t233 = true then (if 1 ≤ (t231.size : Int) then (some (t230, t231.extract 1 t231.size, t232)) else (none)) else (some ((⟨#[]⟩ : ByteArray), t231, true))) = some (r1, r2, r3) := H
              have A21 := Aside0.mk A210
              clear A210
              by_cases c22 : t233 = true
              · subst c22
                have H1 : (if 1 ≤ (t231.size : Int) then (some (t230, t231.extract 1 t231.size, t232)) else (none)) = some (r1, r2, r3) := by rw [if_pos rfl] at H; exact H
                clear H
                have H := H1
                clear H1
                by_cases c23 : 1 ≤ (t231.size : Int)
                · rw [if_pos c23] at H
                  have c23b0 := eq_true c23
                  have c23b1 : decide (1 ≤ (t231.size : Int)) = true := decide_eq_true c23
                  clear c23
                  simp only [Option.some.injEq, Prod.mk.injEq] at H
                  obtain ⟨rfl, rfl, rfl⟩ := H
                  obtain ⟨ASz24_0, cSz24_0, HGz24, hgz24, HSz24_0⟩ := HI0.out
                  have hcz24_0 := cellS126_0 HGz24
                  have hcz24_1 := cellS126_1 HGz24
                  have hcz24_2 := cellS126_2 HGz24
                  have hfz24_1 := blk_frozen HGz24 1
                  have hfz24_2 := blk_frozen HGz24 2
                  clear HGz24 hgz24
                  go_wp2_with (first | ((with_reducible refine gate_callee (f := 84) rfl ?_); refine goesL_ (some 53) rfl rfl Try.func84 (by kernel_rfl) rfl #[.pointer (some ⟨g, 0, none⟩), .int .i64 0] rfl (by (try simp only [List.map_toArray, List.map_cons, List.map_nil]); first | done | rfl | (simp only [List.length_drop, List.length_take]; rfl)) ?_; (with_reducible refine (IHn_ g s0_0 (s0_1.extract 1 s0_1.size) s0_2 0 t230 t231 t232 w0 _ ?side1 ?side2 A20.out).mono ?_); (case side1 => repeat (first | (with_reducible first | exact HI0.out | apply IsS126.alloc | apply IsS126.drewN | apply IsS126.drew | apply IsS126.set_1 | apply IsS126.set_2) | exact HI0.out)); (case side2 => repeat (first | (with_reducible first | exact HB.out | apply below_alloc | apply pw_below_drewN | apply below_drew1 | refine below_set ?_ (IsS126.ge HI0.out)) | exact HB.out)); rintro e w25 ⟨rfl, hi, hb, hk⟩; refine ⟨_, rfl, ?_⟩; have n0_ := Aside0.mk (KeepBut.trans (by repeat (first | (with_reducible first | exact HK.out | apply KeepBut.set_ | apply keep_drewN | apply keep_drew | apply keep_alloc) | exact HK.out)) hk (.inl rfl)); have n1_ := Aside0.mk (hb); have n2_ := Aside0.mk (hi); clear HK; clear HB; clear HI0; have HK := n0_; have HB := n1_; have HI0 := n2_; clear n0_ n1_ n2_; (try clear hb); (try clear hb2); (try clear hk); (try clear hi); obtain ⟨ASz26_0, cSz26_0, HGz26, hgz26, HSz26_0⟩ := HI0.out; have hcz26_0 := cellS126_0 HGz26; have hcz26_1 := cellS126_1 HGz26; have hcz26_2 := cellS126_2 HGz26; have hfz26_1 := blk_frozen HGz26 1; have hfz26_2 := blk_frozen HGz26 2; clear HGz26 hgz26) | ((with_reducible refine gate_callee (f := 184) rfl ?_); refine goesL_ (some 58) rfl rfl Try.func184 (by kernel_rfl) rfl #[.string t231, .string (⟨#[41]⟩ : ByteArray)] rfl (by (try simp only [List.map_toArray, List.map_cons, List.map_nil]); first | done | rfl | (simp only [List.length_drop, List.length_take]; rfl)) ?_; (with_reducible refine (strings_HasPrefix.calls t231 (⟨#[41]⟩ : ByteArray) true _ A21.out).mono ?_); rintro e w' ⟨rfl, ⟨nd, rfl⟩⟩; refine ⟨_, rfl, ?_⟩; (try (rw [drewN_self w25]; generalize hq_ : World.drewN w25 _ = w25; have n0_ : Aside0 (IsS126 w0 w25 g s0_0 t231 t232) := ⟨by rw [← hq_]; exact (by repeat (first | (with_reducible first | exact HI0.out | apply IsS126.alloc | apply IsS126.drewN | apply IsS126.drew | apply IsS126.set_1 | apply IsS126.set_2) | exact HI0.out))⟩; have n1_ : Aside0 (KeepBut w w25 g none) := ⟨by rw [← hq_]; exact (by repeat (first | (with_reducible first | exact HK.out | apply KeepBut.set_ | apply keep_drewN | apply keep_drew | apply keep_alloc) | exact HK.out))⟩; have n2_ : Aside0 (Below w0.heap.size w0 w25) := ⟨by rw [← hq_]; exact (by repeat (first | (with_reducible first | exact HB.out | apply below_alloc | apply pw_below_drewN | apply below_drew1 | refine below_set ?_ (IsS126.ge HI0.out)) | exact HB.out))⟩; clear HI0 HK HB hq_; have HI0 := n0_; have HK := n1_; have HB := n2_; clear n0_ n1_ n2_; obtain ⟨ASz91_0, cSz91_0, HGz91, hgz91, HSz91_0⟩ := HI0.out; have hcz91_0 := cellS126_0 HGz91; have hcz91_1 := cellS126_1 HGz91; have hcz91_2 := cellS126_2 HGz91; have hfz91_1 := blk_frozen HGz91 1; have hfz91_2 := blk_frozen HGz91 2; clear HGz91 hgz91))))
                  go_ret
                  exact ⟨by first | rfl | (simp [errW_none, errW_some] <;> rfl) | (simp [*, errW_none, errW_some] <;> rfl), by repeat (first | (with_reducible first | exact HI0.out | apply IsS126.alloc | apply IsS126.drewN | apply IsS126.drew | apply IsS126.set_1 | apply IsS126.set_2) | exact HI0.out), by repeat (first | (with_reducible first | exact HB.out | apply below_alloc | apply pw_below_drewN | apply below_drew1 | refine below_set ?_ (IsS126.ge HI0.out)) | exact HB.out), by repeat (first | (with_reducible first | exact HK.out | apply KeepBut.set_ | apply keep_drewN | apply keep_drew | apply keep_alloc) | exact HK.out)⟩
                · rw [if_neg c23] at H
                  exact absurd H (by simp)
              · replace c22 := Bool.eq_false_iff.mpr c22
                subst c22
                have H1 : (some ((⟨#[]⟩ : ByteArray), t231, true)) = some (r1, r2, r3) := by rw [if_neg (show ¬ (false = true) by decide)] at H; exact H
                clear H
                have H := H1
                clear H1
                simp only [Option.some.injEq, Prod.mk.injEq] at H
                obtain ⟨rfl, rfl, rfl⟩ := H
                obtain ⟨ASz27_0, cSz27_0, HGz27, hgz27, HSz27_0⟩ := HI0.out
                have hcz27_0 := cellS126_0 HGz27
                have hcz27_1 := cellS126_1 HGz27
                have hcz27_2 := cellS126_2 HGz27
                have hfz27_1 := blk_frozen HGz27 1
                have hfz27_2 := blk_frozen HGz27 2
                clear HGz27 hgz27
                go_wp2_with (first | ((with_reducible refine gate_callee (f := 84) rfl ?_); refine goesL_ (some 53) rfl rfl Try.func84 (by kernel_rfl) rfl #[.pointer (some ⟨g, 0, none⟩), .int .i64 0] rfl (by (try simp only [List.map_toArray, List.map_cons, List.map_nil]); first | done | rfl | (simp only [List.length_drop, List.length_take]; rfl)) ?_; (with_reducible refine (IHn_ g s0_0 (s0_1.extract 1 s0_1.size) s0_2 0 t230 t231 t232 w0 _ ?side1 ?side2 A20.out).mono ?_); (case side1 => repeat (first | (with_reducible first | exact HI0.out | apply IsS126.alloc | apply IsS126.drewN | apply IsS126.drew | apply IsS126.set_1 | apply IsS126.set_2) | exact HI0.out)); (case side2 => repeat (first | (with_reducible first | exact HB.out | apply below_alloc | apply pw_below_drewN | apply below_drew1 | refine below_set ?_ (IsS126.ge HI0.out)) | exact HB.out)); rintro e w28 ⟨rfl, hi, hb, hk⟩; refine ⟨_, rfl, ?_⟩; have n0_ := Aside0.mk (KeepBut.trans (by repeat (first | (with_reducible first | exact HK.out | apply KeepBut.set_ | apply keep_drewN | apply keep_drew | apply keep_alloc) | exact HK.out)) hk (.inl rfl)); have n1_ := Aside0.mk (hb); have n2_ := Aside0.mk (hi); clear HK; clear HB; clear HI0; have HK := n0_; have HB := n1_; have HI0 := n2_; clear n0_ n1_ n2_; (try clear hb); (try clear hb2); (try clear hk); (try clear hi); obtain ⟨ASz29_0, cSz29_0, HGz29, hgz29, HSz29_0⟩ := HI0.out; have hcz29_0 := cellS126_0 HGz29; have hcz29_1 := cellS126_1 HGz29; have hcz29_2 := cellS126_2 HGz29; have hfz29_1 := blk_frozen HGz29 1; have hfz29_2 := blk_frozen HGz29 2; clear HGz29 hgz29) | ((with_reducible refine gate_callee (f := 184) rfl ?_); refine goesL_ (some 58) rfl rfl Try.func184 (by kernel_rfl) rfl #[.string t231, .string (⟨#[41]⟩ : ByteArray)] rfl (by (try simp only [List.map_toArray, List.map_cons, List.map_nil]); first | done | rfl | (simp only [List.length_drop, List.length_take]; rfl)) ?_; (with_reducible refine (strings_HasPrefix.calls t231 (⟨#[41]⟩ : ByteArray) false _ A21.out).mono ?_); rintro e w' ⟨rfl, ⟨nd, rfl⟩⟩; refine ⟨_, rfl, ?_⟩; (try (rw [drewN_self w28]; generalize hq_ : World.drewN w28 _ = w28; have n0_ : Aside0 (IsS126 w0 w28 g s0_0 t231 t232) := ⟨by rw [← hq_]; exact (by repeat (first | (with_reducible first | exact HI0.out | apply IsS126.alloc | apply IsS126.drewN | apply IsS126.drew | apply IsS126.set_1 | apply IsS126.set_2) | exact HI0.out))⟩; have n1_ : Aside0 (KeepBut w w28 g none) := ⟨by rw [← hq_]; exact (by repeat (first | (with_reducible first | exact HK.out | apply KeepBut.set_ | apply keep_drewN | apply keep_drew | apply keep_alloc) | exact HK.out))⟩; have n2_ : Aside0 (Below w0.heap.size w0 w28) := ⟨by rw [← hq_]; exact (by repeat (first | (with_reducible first | exact HB.out | apply below_alloc | apply pw_below_drewN | apply below_drew1 | refine below_set ?_ (IsS126.ge HI0.out)) | exact HB.out))⟩; clear HI0 HK HB hq_; have HI0 := n0_; have HK := n1_; have HB := n2_; clear n0_ n1_ n2_; obtain ⟨ASz92_0, cSz92_0, HGz92, hgz92, HSz92_0⟩ := HI0.out; have hcz92_0 := cellS126_0 HGz92; have hcz92_1 := cellS126_1 HGz92; have hcz92_2 := cellS126_2 HGz92; have hfz92_1 := blk_frozen HGz92 1; have hfz92_2 := blk_frozen HGz92 2; clear HGz92 hgz92))))
                go_ret
                exact ⟨by first | rfl | (simp [errW_none, errW_some] <;> rfl) | (simp [*, errW_none, errW_some] <;> rfl), by repeat (first | (with_reducible first | exact HI0.out | apply IsS126.alloc | apply IsS126.drewN | apply IsS126.drew | apply IsS126.set_1 | apply IsS126.set_2) | exact HI0.out), by repeat (first | (with_reducible first | exact HB.out | apply below_alloc | apply pw_below_drewN | apply below_drew1 | refine below_set ?_ (IsS126.ge HI0.out)) | exact HB.out), by repeat (first | (with_reducible first | exact HK.out | apply KeepBut.set_ | apply keep_drewN | apply keep_drew | apply keep_alloc) | exact HK.out)⟩
            · rw [if_neg c19] at H
              have c19b0 : ((s0_1.extract 0 1).toList == ([40] : List UInt8)) = false := beq_eq_false_iff_ne.mpr c19
              have c19b1 : ((s0_1.extract 0 1).toList != ([40] : List UInt8)) = true := bne_iff_ne.mpr c19
              simp only [Option.some.injEq, Prod.mk.injEq] at H
              obtain ⟨rfl, rfl, rfl⟩ := H
              obtain ⟨ASz30_0, cSz30_0, HGz30, hgz30, HSz30_0⟩ := HI0.out
              have hcz30_0 := cellS126_0 HGz30
              have hcz30_1 := cellS126_1 HGz30
              have hcz30_2 := cellS126_2 HGz30
              have hfz30_1 := blk_frozen HGz30 1
              have hfz30_2 := blk_frozen HGz30 2
              clear HGz30 hgz30
              go_wp2
              go_ret
              exact ⟨by first | rfl | (simp [errW_none, errW_some] <;> rfl) | (simp [*, errW_none, errW_some] <;> rfl), by repeat (first | (with_reducible first | exact HI0.out | apply IsS126.alloc | apply IsS126.drewN | apply IsS126.drew | apply IsS126.set_1 | apply IsS126.set_2) | exact HI0.out), by repeat (first | (with_reducible first | exact HB.out | apply below_alloc | apply pw_below_drewN | apply below_drew1 | refine below_set ?_ (IsS126.ge HI0.out)) | exact HB.out), by repeat (first | (with_reducible first | exact HK.out | apply KeepBut.set_ | apply keep_drewN | apply keep_drew | apply keep_alloc) | exact HK.out)⟩
          · rw [if_neg c17] at H
            exact absurd H (by simp)
        · rw [if_neg c16] at H
          exact absurd H (by simp)

/-! ### impl_climber_climb: function 84 -/
mutual
def impl_climber_climb.l0 : Nat → Int → ByteArray → List (S128) → ByteArray → Bool → Option (ByteArray × ByteArray × Bool)
  | 0, _, _, _, _, _ => none
  | k + 1, x1, x5, x1000, x1001, x1002 => if x1002 = true then (some (x5, x1001, x1002)) else ((impl_climber_next.f x1000 x1001 x1002).bind fun bt237 => (if bt237.2.2.2.1 = true then (impl_climber_climb.j1 k x1 x5 (decide (bt237.2.1 < x1)) x1000 bt237.2.2.2.2.1 bt237.2.2.2.2.2 bt237.1 bt237.2.1 bt237.2.2.1) else (impl_climber_climb.j1 k x1 x5 true x1000 bt237.2.2.2.2.1 bt237.2.2.2.2.2 bt237.1 bt237.2.1 bt237.2.2.1)))
def impl_climber_climb.j1 : Nat → Int → ByteArray → Bool → List (S128) → ByteArray → Bool → ByteArray → Int → Bool → Option (ByteArray × ByteArray × Bool)
  | 0, _, _, _, _, _, _, _, _, _ => none
  | k + 1, x1, x5, x29, x1000, x1001, x1002, x244000, x244001, x244002 => if x29 = true then (some (x5, x1001, x1002)) else (if 1 ≤ (x1001.size : Int) then (if x244002 = true then ((impl_climber_climb.f k x1000 (x1001.extract 1 x1001.size) x1002 x244001).bind fun bt244 => (if 1 + x5.size ≤ 9223372036854775807 then (if ((⟨#[40]⟩ : ByteArray) ++ x5).size + x244000.size ≤ 9223372036854775807 then (if (((⟨#[40]⟩ : ByteArray) ++ x5) ++ x244000).size + bt244.1.size ≤ 9223372036854775807 then (if ((((⟨#[40]⟩ : ByteArray) ++ x5) ++ x244000) ++ bt244.1).size + 1 ≤ 9223372036854775807 then (impl_climber_climb.l0 k x1 (((((⟨#[40]⟩ : ByteArray) ++ x5) ++ x244000) ++ bt244.1) ++ (⟨#[41]⟩ : ByteArray)) x1000 bt244.2.1 bt244.2.2) else (none)) else (none)) else (none)) else (none))) else ((impl_climber_climb.f k x1000 (x1001.extract 1 x1001.size) x1002 (wrap64 (x244001 + 1))).bind fun bt247 => (if 1 + x5.size ≤ 9223372036854775807 then (if ((⟨#[40]⟩ : ByteArray) ++ x5).size + x244000.size ≤ 9223372036854775807 then (if (((⟨#[40]⟩ : ByteArray) ++ x5) ++ x244000).size + bt247.1.size ≤ 9223372036854775807 then (if ((((⟨#[40]⟩ : ByteArray) ++ x5) ++ x244000) ++ bt247.1).size + 1 ≤ 9223372036854775807 then (impl_climber_climb.l0 k x1 (((((⟨#[40]⟩ : ByteArray) ++ x5) ++ x244000) ++ bt247.1) ++ (⟨#[41]⟩ : ByteArray)) x1000 bt247.2.1 bt247.2.2) else (none)) else (none)) else (none)) else (none)))) else (none))
def impl_climber_climb.f : Nat → List (S128) → ByteArray → Bool → Int → Option (ByteArray × ByteArray × Bool)
  | 0, _, _, _, _ => none
  | k + 1, s0_0, s0_1, s0_2, a1 => (impl_climber_first.f (impl_climber_climb.f k) k s0_0 s0_1 s0_2).bind fun bt234 => (impl_climber_climb.l0 k a1 bt234.1 s0_0 bt234.2.1 bt234.2.2)
end
theorem impl_climber_climb.mono_l : ∀ k, (∀ y0 y1 y2 y3, LeO (impl_climber_climb.f k y0 y1 y2 y3) (impl_climber_climb.f (k + 1) y0 y1 y2 y3)) ∧ (∀ y0 y1 y2 y3 y4, LeO (impl_climber_climb.l0 k y0 y1 y2 y3 y4) (impl_climber_climb.l0 (k + 1) y0 y1 y2 y3 y4)) ∧ (∀ y0 y1 y2 y3 y4 y5 y6 y7 y8, LeO (impl_climber_climb.j1 k y0 y1 y2 y3 y4 y5 y6 y7 y8) (impl_climber_climb.j1 (k + 1) y0 y1 y2 y3 y4 y5 y6 y7 y8))
  | 0 => ⟨fun _ _ _ _ r h => by simp [impl_climber_climb.f] at h, fun _ _ _ _ _ r h => by simp [impl_climber_climb.l0] at h, fun _ _ _ _ _ _ _ _ _ r h => by simp [impl_climber_climb.j1] at h⟩
  | k + 1 => by
    obtain ⟨ih0, ih1, ih2⟩ := impl_climber_climb.mono_l k
    refine ⟨?_, ?_, ?_⟩
    · intro y0 y1 y2 y3
      unfold impl_climber_climb.f
      repeat' first
      | (with_reducible exact ih0 _ _ _ _)
      | (with_reducible exact ih1 _ _ _ _ _)
      | (with_reducible exact ih2 _ _ _ _ _ _ _ _ _)
      | (with_reducible exact impl_climber_first.mono ih0 _ _ _ _)
      | (with_reducible exact LeO.refl _)
      | (with_reducible exact LeO.none _)
      | (with_reducible refine LeO.ite ?_ ?_)
      | (with_reducible refine LeO.bind ?_ (fun _ => ?_))
      | exact ih0 _ _ _ _
      | exact ih1 _ _ _ _ _
      | exact ih2 _ _ _ _ _ _ _ _ _
      | exact impl_climber_first.mono ih0 _ _ _ _
      | exact LeO.none _
      | refine LeO.ite ?_ ?_
      | refine LeO.bind ?_ (fun _ => ?_)
    · intro y0 y1 y2 y3 y4
      unfold impl_climber_climb.l0
      repeat' first
      | (with_reducible exact ih0 _ _ _ _)
      | (with_reducible exact ih1 _ _ _ _ _)
      | (with_reducible exact ih2 _ _ _ _ _ _ _ _ _)
      | (with_reducible exact impl_climber_first.mono ih0 _ _ _ _)
      | (with_reducible exact LeO.refl _)
      | (with_reducible exact LeO.none _)
      | (with_reducible refine LeO.ite ?_ ?_)
      | (with_reducible refine LeO.bind ?_ (fun _ => ?_))
      | exact ih0 _ _ _ _
      | exact ih1 _ _ _ _ _
      | exact ih2 _ _ _ _ _ _ _ _ _
      | exact impl_climber_first.mono ih0 _ _ _ _
      | exact LeO.none _
      | refine LeO.ite ?_ ?_
      | refine LeO.bind ?_ (fun _ => ?_)
    · intro y0 y1 y2 y3 y4 y5 y6 y7 y8
      unfold impl_climber_climb.j1
      repeat' first
      | (with_reducible exact ih0 _ _ _ _)
      | (with_reducible exact ih1 _ _ _ _ _)
      | (with_reducible exact ih2 _ _ _ _ _ _ _ _ _)
      | (with_reducible exact impl_climber_first.mono ih0 _ _ _ _)
      | (with_reducible exact LeO.refl _)
      | (with_reducible exact LeO.none _)
      | (with_reducible refine LeO.ite ?_ ?_)
      | (with_reducible refine LeO.bind ?_ (fun _ => ?_))
      | exact ih0 _ _ _ _
      | exact ih1 _ _ _ _ _
      | exact ih2 _ _ _ _ _ _ _ _ _
      | exact impl_climber_first.mono ih0 _ _ _ _
      | exact LeO.none _
      | refine LeO.ite ?_ ?_
      | refine LeO.bind ?_ (fun _ => ?_)
theorem impl_climber_climb.mono : ∀ a0 a1 a2 a3 k, LeO (impl_climber_climb.f k a0 a1 a2 a3) (impl_climber_climb.f (k + 1) a0 a1 a2 a3) := by
  intro a0 a1 a2 a3 k
  obtain ⟨ih0, ih1, ih2⟩ := impl_climber_climb.mono_l k
  exact ih0 a0 a1 a2 a3
set_option maxHeartbeats 8000000 in
set_option maxRecDepth 100000 in
theorem impl_climber_climb.calls (k : Nat) : ∀ (g : Nat) (s0_0 : List (S128)) (s0_1 : ByteArray) (s0_2 : Bool) (a1 : Int) (r1 : ByteArray) (r2 : ByteArray) (r3 : Bool) (w0 w : World) (hI : IsS126 w0 w g s0_0 s0_1 s0_2) (hB : Below w0.heap.size w0 w) (h : impl_climber_climb.f k s0_0 s0_1 s0_2 a1 = some (r1, r2, r3)),
    Calls Try.prog 84 #[.pointer (some ⟨g, 0, none⟩), .int .i64 a1] w fun e w' => e = .returned (.string r1) ∧ IsS126 w0 w' g s0_0 r2 r3 ∧ Below w0.heap.size w0 w' ∧ KeepBut w w' g none := by
  induction k using Nat.strongRecOn with
  | _ k ih =>
  intro g s0_0 s0_1 s0_2 a1 r1 r2 r3 w0 w hI hB h
  cases k with
  | zero => exact absurd h (by simp [impl_climber_climb.f])
  | succ k =>
  simp only [impl_climber_climb.f] at h
  have hu128 := Try.underlying128
  have HI0 := Aside0.mk hI
  have HK := Aside0.mk (KeepBut.refl w g none)
  have HL := Aside0.mk hB.size
  clear hI
  have HW0 := Aside0.mk hB.size
  have HB := Aside0.mk hB
  clear hB
  have H : ((impl_climber_first.f (impl_climber_climb.f k) k s0_0 s0_1 s0_2).bind fun bt234 => (impl_climber_climb.l0 k a1 bt234.1 s0_0 bt234.2.1 bt234.2.2)) = some (r1, r2, r3) := h
  clear h
  replace H := Option.bind_eq_some_iff.mp H
  obtain ⟨⟨t234, t235, t236⟩, A30, H⟩ := H
  replace H : (impl_climber_climb.l0 k a1 t234 s0_0 t235 t236) = some (r1, r2, r3) := H
  have A3 := Aside0.mk A30
  clear A30
  have H' := Aside0.mk H
  clear H
  go_enter Try.func84, Try.ntmps84
  go_wp2_with (first | ((with_reducible refine gate_callee (f := 150) rfl ?_); refine goesL_ (some 11) rfl rfl Try.func150 (by kernel_rfl) rfl #[.pointer (some ⟨g, 0, none⟩)] rfl (by (try simp only [List.map_toArray, List.map_cons, List.map_nil]); first | done | rfl | (simp only [List.length_drop, List.length_take]; rfl)) ?_; (with_reducible refine (impl_climber_first.calls (impl_climber_climb.f k) (ih k (by omega)) k g s0_0 s0_1 s0_2 t234 t235 t236 w0 _ ?side1 ?side2 A3.out).mono ?_); (case side1 => repeat (first | (with_reducible first | exact HI0.out | apply IsS126.alloc | apply IsS126.drewN | apply IsS126.drew | apply IsS126.set_1 | apply IsS126.set_2) | exact HI0.out)); (case side2 => repeat (first | (with_reducible first | exact HB.out | apply below_alloc | apply pw_below_drewN | apply below_drew1 | refine below_set ?_ (IsS126.ge HI0.out)) | exact HB.out)); rintro e w4 ⟨rfl, hi, hb, hk⟩; refine ⟨_, rfl, ?_⟩; have n0_ := Aside0.mk (KeepBut.trans (by repeat (first | (with_reducible first | exact HK.out | apply KeepBut.set_ | apply keep_drewN | apply keep_drew | apply keep_alloc) | exact HK.out)) hk (.inl rfl)); have n1_ := Aside0.mk (hb); have n2_ := Aside0.mk (hi); clear HK; clear HB; clear HI0; have HK := n0_; have HB := n1_; have HI0 := n2_; clear n0_ n1_ n2_; (try clear hb); (try clear hb2); (try clear hk); (try clear hi)))
  go_loopg [5] k (fun kq v5 w' => ∃ (x5_1 : ByteArray) (x1001_1 : ByteArray) (x1002_1 : Bool), v5 = .string x5_1 ∧ Aside0 (impl_climber_climb.l0 kq a1 x5_1 s0_0 x1001_1 x1002_1 = some (r1, r2, r3)) ∧ Aside0 (kq ≤ k) ∧ Aside0 (IsS126 w0 w' g s0_0 x1001_1 x1002_1) ∧ Aside0 (KeepBut w w' g none) ∧ Aside0 (Below w0.heap.size w0 w'))
  case atStart => exact ⟨(t234), (t235), (t236), (by first | rfl | (simp; done) | (simp [*]; done) | (simp [isE0, isE1]; done)), H', ⟨Nat.le_refl _⟩, ⟨by repeat (first | (with_reducible first | exact HI0.out | apply IsS126.alloc | apply IsS126.drewN | apply IsS126.drew | apply IsS126.set_1 | apply IsS126.set_2) | exact HI0.out)⟩, ⟨by repeat (first | (with_reducible first | exact HK.out | apply KeepBut.set_ | apply keep_drewN | apply keep_drew | apply keep_alloc) | exact HK.out)⟩, ⟨by repeat (first | (with_reducible first | exact HB.out | apply below_alloc | apply pw_below_drewN | apply below_drew1 | refine below_set ?_ (IsS126.ge HI0.out)) | exact HB.out)⟩⟩
  case round =>
    clear H'
    try clear c1
    try clear p2
    obtain ⟨x5_1, x1001_1, x1002_1, rfl, HA, HK1, HI0, HK, HB⟩ := hrel
    cases gk with
    | zero => exact absurd HA.out (by simp [impl_climber_climb.l0])
    | succ k1 =>
      have H := HA.out
      clear HA
      simp only [impl_climber_climb.l0] at H
      by_cases c5 : x1002_1 = true
      · subst c5
        have H1 : (some (x5_1, x1001_1, true)) = some (r1, r2, r3) := by rw [if_pos rfl] at H; exact H
        clear H
        have H := H1
        clear H1
        simp only [Option.some.injEq, Prod.mk.injEq] at H
        obtain ⟨rfl, rfl, rfl⟩ := H
        obtain ⟨ASz6_0, cSz6_0, HGz6, hgz6, HSz6_0⟩ := HI0.out
        have hcz6_0 := cellS126_0 HGz6
        have hcz6_1 := cellS126_1 HGz6
        have hcz6_2 := cellS126_2 HGz6
        have hfz6_1 := blk_frozen HGz6 1
        have hfz6_2 := blk_frozen HGz6 2
        clear HGz6 hgz6
        go_wp2
        go_ret
        exact ⟨by first | rfl | (simp [errW_none, errW_some] <;> rfl) | (simp [*, errW_none, errW_some] <;> rfl), by repeat (first | (with_reducible first | exact HI0.out | apply IsS126.alloc | apply IsS126.drewN | apply IsS126.drew | apply IsS126.set_1 | apply IsS126.set_2) | exact HI0.out), by repeat (first | (with_reducible first | exact HB.out | apply below_alloc | apply pw_below_drewN | apply below_drew1 | refine below_set ?_ (IsS126.ge HI0.out)) | exact HB.out), by repeat (first | (with_reducible first | exact HK.out | apply KeepBut.set_ | apply keep_drewN | apply keep_drew | apply keep_alloc) | exact HK.out)⟩
      · replace c5 := Bool.eq_false_iff.mpr c5
        subst c5
        have H1 : ((impl_climber_next.f s0_0 x1001_1 false).bind fun bt237 => (if bt237.2.2.2.1 = true then (impl_climber_climb.j1 k1 a1 x5_1 (decide (bt237.2.1 < a1)) s0_0 bt237.2.2.2.2.1 bt237.2.2.2.2.2 bt237.1 bt237.2.1 bt237.2.2.1) else (impl_climber_climb.j1 k1 a1 x5_1 true s0_0 bt237.2.2.2.2.1 bt237.2.2.2.2.2 bt237.1 bt237.2.1 bt237.2.2.1))) = some (r1, r2, r3) := by rw [if_neg (show ¬ (false = true) by decide)] at H; exact H
        clear H
        have H := H1
        clear H1
        replace H := Option.bind_eq_some_iff.mp H
        obtain ⟨⟨t237, t238, t239, t240, t241, t242⟩, A70, H⟩ := H
        replace H : (if t240 = true then (impl_climber_climb.j1 k1 a1 x5_1 (decide (t238 < a1)) s0_0 t241 t242 t237 t238 t239) else (impl_climber_climb.j1 k1 a1 x5_1 true s0_0 t241 t242 t237 t238 t239)) = some (r1, r2, r3) := H
        have A7 := Aside0.mk A70
        clear A70
        have HC8 := Aside0.mk H
        clear H
        obtain ⟨ASz9_0, cSz9_0, HGz9, hgz9, HSz9_0⟩ := HI0.out
        have hcz9_0 := cellS126_0 HGz9
        have hcz9_1 := cellS126_1 HGz9
        have hcz9_2 := cellS126_2 HGz9
        have hfz9_1 := blk_frozen HGz9 1
        have hfz9_2 := blk_frozen HGz9 2
        clear HGz9 hgz9
        go_upto_region 4 with (first | ((with_reducible refine gate_callee (f := 151) rfl ?_); refine goesL_ (some 19) rfl rfl Try.func151 (by kernel_rfl) rfl #[.pointer (some ⟨g, 0, none⟩)] rfl (by (try simp only [List.map_toArray, List.map_cons, List.map_nil]); first | done | rfl | (simp only [List.length_drop, List.length_take]; rfl)) ?_; (with_reducible refine (impl_climber_next.calls g s0_0 x1001_1 false t237 t238 t239 t240 t241 t242 w0 _ ?side1 ?side2 A7.out).mono ?_); (case side1 => repeat (first | (with_reducible first | exact HI0.out | apply IsS126.alloc | apply IsS126.drewN | apply IsS126.drew | apply IsS126.set_1 | apply IsS126.set_2) | exact HI0.out)); (case side2 => repeat (first | (with_reducible first | exact HB.out | apply below_alloc | apply pw_below_drewN | apply below_drew1 | refine below_set ?_ (IsS126.ge HI0.out)) | exact HB.out)); rintro e w10 ⟨rfl, hi, hb, hk⟩; refine ⟨_, rfl, ?_⟩; have n0_ := Aside0.mk (KeepBut.trans (by repeat (first | (with_reducible first | exact HK.out | apply KeepBut.set_ | apply keep_drewN | apply keep_drew | apply keep_alloc) | exact HK.out)) hk (.inl rfl)); have n1_ := Aside0.mk (hb); have n2_ := Aside0.mk (hi); clear HK; clear HB; clear HI0; have HK := n0_; have HB := n1_; have HI0 := n2_; clear n0_ n1_ n2_; (try clear hb); (try clear hb2); (try clear hk); (try clear hi)) | ((with_reducible refine gate_dst (N := 6) rfl ?_); refine box_event ?hg (N := 6) ?hd (cs := #[.string (⟨#[]⟩ : ByteArray), .int .i64 0, .bool false]) (t := 128) ?hr ?_; (case hd => rfl); (case hg => rfl); (case hr => first | (go_simp; done) | (go_simp; rfl)); intro gb243 hg w11 hbox hb; have n0_ := Aside0.mk (IsS126.below (by repeat (first | (with_reducible first | exact HI0.out | apply IsS126.alloc | apply IsS126.drewN | apply IsS126.drew | apply IsS126.set_1 | apply IsS126.set_2) | exact HI0.out)) hb); have n1_ := Aside0.mk (KeepBut.trans (by repeat (first | (with_reducible first | exact HK.out | apply KeepBut.set_ | apply keep_drewN | apply keep_drew | apply keep_alloc) | exact HK.out)) (KeepBut.of_below hb g none) (.inl rfl)); have n2_ := Aside0.mk (below_step (by repeat (first | (with_reducible first | exact HB.out | apply below_alloc | apply pw_below_drewN | apply below_drew1 | refine below_set ?_ (IsS126.ge HI0.out)) | exact HB.out)) hb); have n3_ := Aside0.mk (hbox); have n4_ := Aside0.mk ((by rw [hg]; exact (keep_size (w := w) (g := g) (row := none) (by repeat (first | (with_reducible first | exact HK.out | apply KeepBut.set_ | apply keep_drewN | apply keep_drew | apply keep_alloc) | exact HK.out))) : w.heap.size ≤ gb243)); have n5_ := Aside0.mk ((Nat.le_trans HW0.out (by rw [hg]; exact (keep_size (w := w) (g := g) (row := none) (by repeat (first | (with_reducible first | exact HK.out | apply KeepBut.set_ | apply keep_drewN | apply keep_drew | apply keep_alloc) | exact HK.out))) : w.heap.size ≤ gb243) : w0.heap.size ≤ gb243)); have n6_ := Aside0.mk ((by rw [hg]; exact Nat.ne_of_lt (IsS126.lt (show IsS126 w0 _ g s0_0 t241 t242 from by repeat (first | (with_reducible first | exact HI0.out | apply IsS126.alloc | apply IsS126.drewN | apply IsS126.drew | apply IsS126.set_1 | apply IsS126.set_2) | exact HI0.out))) : g ≠ gb243)); have n7_ := Aside0.mk ((by rw [hg]; exact Nat.ne_of_gt (IsS126.lt (show IsS126 w0 _ g s0_0 t241 t242 from by repeat (first | (with_reducible first | exact HI0.out | apply IsS126.alloc | apply IsS126.drewN | apply IsS126.drew | apply IsS126.set_1 | apply IsS126.set_2) | exact HI0.out))) : gb243 ≠ g)); clear HI0; clear HK; clear HB; have HI0 := n0_; have HK := n1_; have HB := n2_; have BK243 := n3_; have GW243 := n4_; have GE243 := n5_; have NB0_243 := n6_; have NB243_0 := n7_; clear n0_ n1_ n2_ n3_ n4_ n5_ n6_ n7_; clear hb hbox hg; have hnb12 := NB243_0.out; have hnc12 := NB0_243.out; obtain ⟨hcz13_0, hcz13_1, hcz13_2, hfz13_0, hfz13_1, hfz13_2⟩ := bc3 BK243.out))
        (try simp only [Act.put, List.setIfInBounds_toArray, List.set_cons_zero, List.set_cons_succ])
        go_cut [29] (fun v29 wc => ∃ (kq : Nat) (x29_7 : Bool), v29 = .bool x29_7 ∧ Aside0 (impl_climber_climb.j1 kq a1 x5_1 x29_7 s0_0 t241 t242 t237 t238 t239 = some (r1, r2, r3)) ∧ Aside0 (kq ≤ k1) ∧ Aside0 (wc.heap[gb243]? = some (.cells #[.string t237, .int .i64 t238, .bool t239] 128 (0, 0))) ∧ Aside0 (IsS126 w0 wc g s0_0 t241 t242) ∧ Aside0 (KeepBut w wc g none) ∧ Aside0 (Below w0.heap.size w0 wc))
        case first =>
          have H := HC8.out
          clear HC8
          by_cases c14 : t240 = true
          · subst c14
            have H1 : (impl_climber_climb.j1 k1 a1 x5_1 (decide (t238 < a1)) s0_0 t241 t242 t237 t238 t239) = some (r1, r2, r3) := by rw [if_pos rfl] at H; exact H
            clear H
            have H := H1
            clear H1
            have H' := Aside0.mk H
            clear H
            have hnb15 := NB243_0.out
            have hnc15 := NB0_243.out
            obtain ⟨hcz16_0, hcz16_1, hcz16_2, hfz16_0, hfz16_1, hfz16_2⟩ := bc3 BK243.out
            go_wp2
            go_meet
            case rel => exact ⟨_, (decide (t238 < a1)), (by first | rfl | (simp; done) | (simp [*]; done) | (simp [isE0, isE1]; done)), H', ⟨by have := HK1.out; first | omega | exact Nat.le_refl _⟩, ⟨by (with_reducible repeat (first | refine blk_drewN ?_ _ | refine blk_drew ?_ | refine blk_alloc ?_ _)); refine blk_put (cs := #[.string t237, .int .i64 t238, .bool false]) ?_ 2 _ rfl; (with_reducible repeat (first | refine blk_drewN ?_ _ | refine blk_drew ?_ | refine blk_alloc ?_ _)); refine blk_put (cs := #[.string t237, .int .i64 0, .bool false]) ?_ 1 _ rfl; (with_reducible repeat (first | refine blk_drewN ?_ _ | refine blk_drew ?_ | refine blk_alloc ?_ _)); refine blk_put (cs := #[.string (⟨#[]⟩ : ByteArray), .int .i64 0, .bool false]) ?_ 0 _ rfl; (with_reducible repeat (first | refine blk_drewN ?_ _ | refine blk_drew ?_ | refine blk_alloc ?_ _)); exact BK243.out⟩, ⟨by repeat (first | (with_reducible first | exact HI0.out | apply IsS126.alloc | apply IsS126.drewN | apply IsS126.drew | apply IsS126.set_1 | apply IsS126.set_2 | refine IsS126.far ?_ NB0_243.out _) | exact HI0.out)⟩, ⟨by repeat (first | (with_reducible first | exact HK.out | apply KeepBut.set_ | apply keep_drewN | apply keep_drew | apply keep_alloc | refine keep_far ?_ GW243.out _) | exact HK.out)⟩, ⟨by repeat (first | (with_reducible first | exact HB.out | apply below_alloc | apply pw_below_drewN | apply below_drew1 | refine below_set ?_ (IsS126.ge HI0.out) | refine below_set ?_ GE243.out) | exact HB.out)⟩⟩
          · replace c14 := Bool.eq_false_iff.mpr c14
            subst c14
            have H1 : (impl_climber_climb.j1 k1 a1 x5_1 true s0_0 t241 t242 t237 t238 t239) = some (r1, r2, r3) := by rw [if_neg (show ¬ (false = true) by decide)] at H; exact H
            clear H
            have H := H1
            clear H1
            have H' := Aside0.mk H
            clear H
            go_wp2
            go_meet
            case rel => exact ⟨_, (true), (by first | rfl | (simp; done) | (simp [*]; done) | (simp [isE0, isE1]; done)), H', ⟨by have := HK1.out; first | omega | exact Nat.le_refl _⟩, ⟨by (with_reducible repeat (first | refine blk_drewN ?_ _ | refine blk_drew ?_ | refine blk_alloc ?_ _)); refine blk_put (cs := #[.string t237, .int .i64 t238, .bool false]) ?_ 2 _ rfl; (with_reducible repeat (first | refine blk_drewN ?_ _ | refine blk_drew ?_ | refine blk_alloc ?_ _)); refine blk_put (cs := #[.string t237, .int .i64 0, .bool false]) ?_ 1 _ rfl; (with_reducible repeat (first | refine blk_drewN ?_ _ | refine blk_drew ?_ | refine blk_alloc ?_ _)); refine blk_put (cs := #[.string (⟨#[]⟩ : ByteArray), .int .i64 0, .bool false]) ?_ 0 _ rfl; (with_reducible repeat (first | refine blk_drewN ?_ _ | refine blk_drew ?_ | refine blk_alloc ?_ _)); exact BK243.out⟩, ⟨by repeat (first | (with_reducible first | exact HI0.out | apply IsS126.alloc | apply IsS126.drewN | apply IsS126.drew | apply IsS126.set_1 | apply IsS126.set_2 | refine IsS126.far ?_ NB0_243.out _) | exact HI0.out)⟩, ⟨by repeat (first | (with_reducible first | exact HK.out | apply KeepBut.set_ | apply keep_drewN | apply keep_drew | apply keep_alloc | refine keep_far ?_ GW243.out _) | exact HK.out)⟩, ⟨by repeat (first | (with_reducible first | exact HB.out | apply below_alloc | apply pw_below_drewN | apply below_drew1 | refine below_set ?_ (IsS126.ge HI0.out) | refine below_set ?_ GE243.out) | exact HB.out)⟩⟩
        case rest =>
          clear HC8
          try clear c1
          try clear p2
          try clear c5
          try clear c8
          try clear c12
          try clear c14
          try clear c15
          try clear hcz13_0
          try clear hcz13_1
          try clear hcz13_2
          try clear hcz16_0
          try clear hcz16_1
          try clear hcz16_2
          try clear hcz6_0
          try clear hcz6_1
          try clear hcz6_2
          try clear hcz9_0
          try clear hcz9_1
          try clear hcz9_2
          try clear hfz13_0
          try clear hfz13_1
          try clear hfz13_2
          try clear hfz16_0
          try clear hfz16_1
          try clear hfz16_2
          try clear hfz6_1
          try clear hfz6_2
          try clear hfz9_1
          try clear hfz9_2
          try clear p2
          obtain ⟨kq, x29_7, rfl, HA, HJ7, BK243, HI0, HK, HB⟩ := hcut
          cases kq with
          | zero => exact absurd HA.out (by simp [impl_climber_climb.j1])
          | succ kj7 =>
            have H := HA.out
            clear HA
            simp only [impl_climber_climb.j1] at H
            by_cases c17 : x29_7 = true
            · subst c17
              have H1 : (some (x5_1, t241, t242)) = some (r1, r2, r3) := by rw [if_pos rfl] at H; exact H
              clear H
              have H := H1
              clear H1
              simp only [Option.some.injEq, Prod.mk.injEq] at H
              obtain ⟨rfl, rfl, rfl⟩ := H
              go_wp2
              go_ret
              exact ⟨by first | rfl | (simp [errW_none, errW_some] <;> rfl) | (simp [*, errW_none, errW_some] <;> rfl), by repeat (first | (with_reducible first | exact HI0.out | apply IsS126.alloc | apply IsS126.drewN | apply IsS126.drew | apply IsS126.set_1 | apply IsS126.set_2 | refine IsS126.far ?_ NB0_243.out _) | exact HI0.out), by repeat (first | (with_reducible first | exact HB.out | apply below_alloc | apply pw_below_drewN | apply below_drew1 | refine below_set ?_ (IsS126.ge HI0.out) | refine below_set ?_ GE243.out) | exact HB.out), by repeat (first | (with_reducible first | exact HK.out | apply KeepBut.set_ | apply keep_drewN | apply keep_drew | apply keep_alloc | refine keep_far ?_ GW243.out _) | exact HK.out)⟩
            · replace c17 := Bool.eq_false_iff.mpr c17
              subst c17
              have H1 : (if 1 ≤ (t241.size : Int) then (if t239 = true then ((impl_climber_climb.f kj7 s0_0 (t241.extract 1 t241.size) t242 t238).bind fun bt244 => (if 1 + x5_1.size ≤ 9223372036854775807 then (if ((⟨#[40]⟩ : ByteArray) ++ x5_1).size + t237.size ≤ 9223372036854775807 then (if (((⟨#[40]⟩ : ByteArray) ++ x5_1) ++ t237).size + bt244.1.size ≤ 9223372036854775807 then (if ((((⟨#[40]⟩ : ByteArray) ++ x5_1) ++ t237) ++ bt244.1).size + 1 ≤ 9223372036854775807 then (impl_climber_climb.l0 kj7 a1 (((((⟨#[40]⟩ : ByteArray) ++ x5_1) ++ t237) ++ bt244.1) ++ (⟨#[41]⟩ : ByteArray)) s0_0 bt244.2.1 bt244.2.2) else (none)) else (none)) else (none)) else (none))) else ((impl_climber_climb.f kj7 s0_0 (t241.extract 1 t241.size) t242 (wrap64 (t238 + 1))).bind fun bt247 => (if 1 + x5_1.size ≤ 9223372036854775807 then (if ((⟨#[40]⟩ : ByteArray) ++ x5_1).size + t237.size ≤ 9223372036854775807 then (if (((⟨#[40]⟩ : ByteArray) ++ x5_1) ++ t237).size + bt247.1.size ≤ 9223372036854775807 then (if ((((⟨#[40]⟩ : ByteArray) ++ x5_1) ++ t237) ++ bt247.1).size + 1 ≤ 9223372036854775807 then (impl_climber_climb.l0 kj7 a1 (((((⟨#[40]⟩ : ByteArray) ++ x5_1) ++ t237) ++ bt247.1) ++ (⟨#[41]⟩ : ByteArray)) s0_0 bt247.2.1 bt247.2.2) else (none)) else (none)) else (none)) else (none)))) else (none)) = some (r1, r2, r3) := by rw [if_neg (show ¬ (false = true) by decide)] at H; exact H
              clear H
              have H := H1
              clear H1
              by_cases c18 : 1 ≤ (t241.size : Int)
              · rw [if_pos c18] at H
                have c18b0 := eq_true c18
                have c18b1 : decide (1 ≤ (t241.size : Int)) = true := decide_eq_true c18
                clear c18
                by_cases c19 : t239 = true
                · subst c19
                  have H1 : ((impl_climber_climb.f kj7 s0_0 (t241.extract 1 t241.size) t242 t238).bind fun bt244 => (if 1 + x5_1.size ≤ 9223372036854775807 then (if ((⟨#[40]⟩ : ByteArray) ++ x5_1).size + t237.size ≤ 9223372036854775807 then (if (((⟨#[40]⟩ : ByteArray) ++ x5_1) ++ t237).size + bt244.1.size ≤ 9223372036854775807 then (if ((((⟨#[40]⟩ : ByteArray) ++ x5_1) ++ t237) ++ bt244.1).size + 1 ≤ 9223372036854775807 then (impl_climber_climb.l0 kj7 a1 (((((⟨#[40]⟩ : ByteArray) ++ x5_1) ++ t237) ++ bt244.1) ++ (⟨#[41]⟩ : ByteArray)) s0_0 bt244.2.1 bt244.2.2) else (none)) else (none)) else (none)) else (none))) = some (r1, r2, r3) := by rw [if_pos rfl] at H; exact H
                  clear H
                  have H := H1
                  clear H1
                  replace H := Option.bind_eq_some_iff.mp H
                  obtain ⟨⟨t244, t245, t246⟩, A200, H⟩ := H
                  replace H : (if 1 + x5_1.size ≤ 9223372036854775807 then (if ((⟨#[40]⟩ : ByteArray) ++ x5_1).size + t237.size ≤ 9223372036854775807 then (if (((⟨#[40]⟩ : ByteArray) ++ x5_1) ++ t237).size + t244.size ≤ 9223372036854775807 then (if ((((⟨#[40]⟩ : ByteArray) ++ x5_1) ++ t237) ++ t244).size + 1 ≤ 9223372036854775807 then (impl_climber_climb.l0 kj7 a1 (((((⟨#[40]⟩ : ByteArray) ++ x5_1) ++ t237) ++ t244) ++ (⟨#[41]⟩ : ByteArray)) s0_0 t245 t246) else (none)) else (none)) else (none)) else (none)) = some (r1, r2, r3) := H
                  have A20 := Aside0.mk A200
                  clear A200
                  by_cases c21 : 1 + x5_1.size ≤ 9223372036854775807
                  · rw [if_pos c21] at H
                    have c21b0 := eq_true c21
                    have c21b1 : decide (1 + x5_1.size ≤ 9223372036854775807) = true := decide_eq_true c21
                    try have c21b2 : (9223372036854775807 < 1 + x5_1.size) = False := eq_false (Nat.not_lt.2 c21)
                    by_cases c22 : ((⟨#[40]⟩ : ByteArray) ++ x5_1).size + t237.size ≤ 9223372036854775807
                    · rw [if_pos c22] at H
                      have c22b0 := eq_true c22
                      have c22b1 : decide (((⟨#[40]⟩ : ByteArray) ++ x5_1).size + t237.size ≤ 9223372036854775807) = true := decide_eq_true c22
                      try (have c22s := c22; simp only [ByteArray.size_append] at c22s; replace c22s := eq_false (Nat.not_lt.2 c22s))
                      try (have c22n := c22; simp only [ByteArray.size_append] at c22n; simp only [show (⟨#[40]⟩ : ByteArray).size = 1 from rfl] at c22n; replace c22n := eq_false (Nat.not_lt.2 c22n))
                      try have c22b2 : (9223372036854775807 < ((⟨#[40]⟩ : ByteArray) ++ x5_1).size + t237.size) = False := eq_false (Nat.not_lt.2 c22)
                      by_cases c23 : (((⟨#[40]⟩ : ByteArray) ++ x5_1) ++ t237).size + t244.size ≤ 9223372036854775807
                      · rw [if_pos c23] at H
                        have c23b0 := eq_true c23
                        have c23b1 : decide ((((⟨#[40]⟩ : ByteArray) ++ x5_1) ++ t237).size + t244.size ≤ 9223372036854775807) = true := decide_eq_true c23
                        try (have c23s := c23; simp only [ByteArray.size_append] at c23s; replace c23s := eq_false (Nat.not_lt.2 c23s))
                        try (have c23n := c23; simp only [ByteArray.size_append] at c23n; simp only [show (⟨#[40]⟩ : ByteArray).size = 1 from rfl] at c23n; replace c23n := eq_false (Nat.not_lt.2 c23n))
                        try have c23b2 : (9223372036854775807 < (((⟨#[40]⟩ : ByteArray) ++ x5_1) ++ t237).size + t244.size) = False := eq_false (Nat.not_lt.2 c23)
                        by_cases c24 : ((((⟨#[40]⟩ : ByteArray) ++ x5_1) ++ t237) ++ t244).size + 1 ≤ 9223372036854775807
                        · rw [if_pos c24] at H
                          have c24b0 := eq_true c24
                          have c24b1 : decide (((((⟨#[40]⟩ : ByteArray) ++ x5_1) ++ t237) ++ t244).size + 1 ≤ 9223372036854775807) = true := decide_eq_true c24
                          try (have c24s := c24; simp only [ByteArray.size_append] at c24s; replace c24s := eq_false (Nat.not_lt.2 c24s))
                          try (have c24n := c24; simp only [ByteArray.size_append] at c24n; simp only [show (⟨#[40]⟩ : ByteArray).size = 1 from rfl] at c24n; replace c24n := eq_false (Nat.not_lt.2 c24n))
                          try have c24b2 : (9223372036854775807 < ((((⟨#[40]⟩ : ByteArray) ++ x5_1) ++ t237) ++ t244).size + 1) = False := eq_false (Nat.not_lt.2 c24)
                          have H' := Aside0.mk H
                          clear H
                          obtain ⟨ASz25_0, cSz25_0, HGz25, hgz25, HSz25_0⟩ := HI0.out
                          have hcz25_0 := cellS126_0 HGz25
                          have hcz25_1 := cellS126_1 HGz25
                          have hcz25_2 := cellS126_2 HGz25
                          have hfz25_1 := blk_frozen HGz25 1
                          have hfz25_2 := blk_frozen HGz25 2
                          clear HGz25 hgz25
                          have hnb26 := NB243_0.out
                          have hnc26 := NB0_243.out
                          obtain ⟨hcz27_0, hcz27_1, hcz27_2, hfz27_0, hfz27_1, hfz27_2⟩ := bc3 BK243.out
                          go_wp2_with (first | ((with_reducible refine gate_callee (f := 84) rfl ?_); refine goesL_ (some 47) rfl rfl Try.func84 (by kernel_rfl) rfl #[.pointer (some ⟨g, 0, none⟩), .int .i64 t238] rfl (by (try simp only [List.map_toArray, List.map_cons, List.map_nil]); first | done | rfl | (simp only [List.length_drop, List.length_take]; rfl)) ?_; (with_reducible refine (ih kj7 (by have := HK1.out; have := HJ7.out; omega) g s0_0 (t241.extract 1 t241.size) t242 t238 t244 t245 t246 w0 _ ?side1 ?side2 A20.out).mono ?_); (case side1 => repeat (first | (with_reducible first | exact HI0.out | apply IsS126.alloc | apply IsS126.drewN | apply IsS126.drew | apply IsS126.set_1 | apply IsS126.set_2 | refine IsS126.far ?_ NB0_243.out _) | exact HI0.out)); (case side2 => repeat (first | (with_reducible first | exact HB.out | apply below_alloc | apply pw_below_drewN | apply below_drew1 | refine below_set ?_ (IsS126.ge HI0.out) | refine below_set ?_ GE243.out) | exact HB.out)); rintro e w28 ⟨rfl, hi, hb, hk⟩; refine ⟨_, rfl, ?_⟩; have n0_ := Aside0.mk (KeepBut.blk hk (g' := gb243) (o := .cells #[.string t237, .int .i64 t238, .bool true] 128 (0, 0)) bx NB243_0.out (by simp)); have n1_ := Aside0.mk (KeepBut.trans (by repeat (first | (with_reducible first | exact HK.out | apply KeepBut.set_ | apply keep_drewN | apply keep_drew | apply keep_alloc | refine keep_far ?_ GW243.out _) | exact HK.out)) hk (.inl rfl)); have n2_ := Aside0.mk (hb); have n3_ := Aside0.mk (hi); clear BK243; clear HK; clear HB; clear HI0; have BK243 := n0_; have HK := n1_; have HB := n2_; have HI0 := n3_; clear n0_ n1_ n2_ n3_; (try clear hb); (try clear hb2); (try clear hk); (try clear hi); obtain ⟨hcz29_0, hcz29_1, hcz29_2, hfz29_0, hfz29_1, hfz29_2⟩ := bc3 BK243.out))
                          go_roundg kj7
                          case measure => have := HK1.out; have := HJ7.out; omega
                          case rel => exact ⟨(((((⟨#[40]⟩ : ByteArray) ++ x5_1) ++ t237) ++ t244) ++ (⟨#[41]⟩ : ByteArray)), (t245), (t246), (by first | rfl | (simp; done) | (simp [*]; done) | (simp [isE0, isE1]; done)), H', ⟨by have := HK1.out; have := HJ7.out; omega⟩, ⟨by repeat (first | (with_reducible first | exact HI0.out | apply IsS126.alloc | apply IsS126.drewN | apply IsS126.drew | apply IsS126.set_1 | apply IsS126.set_2 | refine IsS126.far ?_ NB0_243.out _) | exact HI0.out)⟩, ⟨by repeat (first | (with_reducible first | exact HK.out | apply KeepBut.set_ | apply keep_drewN | apply keep_drew | apply keep_alloc | refine keep_far ?_ GW243.out _) | exact HK.out)⟩, ⟨by repeat (first | (with_reducible first | exact HB.out | apply below_alloc | apply pw_below_drewN | apply below_drew1 | refine below_set ?_ (IsS126.ge HI0.out) | refine below_set ?_ GE243.out) | exact HB.out)⟩⟩
                        · rw [if_neg c24] at H
                          exact absurd H (by simp)
                      · rw [if_neg c23] at H
                        exact absurd H (by simp)
                    · rw [if_neg c22] at H
                      exact absurd H (by simp)
                  · rw [if_neg c21] at H
                    exact absurd H (by simp)
                · replace c19 := Bool.eq_false_iff.mpr c19
                  subst c19
                  have H1 : ((impl_climber_climb.f kj7 s0_0 (t241.extract 1 t241.size) t242 (wrap64 (t238 + 1))).bind fun bt247 => (if 1 + x5_1.size ≤ 9223372036854775807 then (if ((⟨#[40]⟩ : ByteArray) ++ x5_1).size + t237.size ≤ 9223372036854775807 then (if (((⟨#[40]⟩ : ByteArray) ++ x5_1) ++ t237).size + bt247.1.size ≤ 9223372036854775807 then (if ((((⟨#[40]⟩ : ByteArray) ++ x5_1) ++ t237) ++ bt247.1).size + 1 ≤ 9223372036854775807 then (impl_climber_climb.l0 kj7 a1 (((((⟨#[40]⟩ : ByteArray) ++ x5_1) ++ t237) ++ bt247.1) ++ (⟨#[41]⟩ : ByteArray)) s0_0 bt247.2.1 bt247.2.2) else (none)) else (none)) else (none)) else (none))) = some (r1, r2, r3) := by rw [if_neg (show ¬ (false = true) by decide)] at H; exact H
                  clear H
                  have H := H1
                  clear H1
                  replace H := Option.bind_eq_some_iff.mp H
                  obtain ⟨⟨t247, t248, t249⟩, A300, H⟩ := H
                  replace H : (if 1 + x5_1.size ≤ 9223372036854775807 then (if ((⟨#[40]⟩ : ByteArray) ++ x5_1).size + t237.size ≤ 9223372036854775807 then (if (((⟨#[40]⟩ : ByteArray) ++ x5_1) ++ t237).size + t247.size ≤ 9223372036854775807 then (if ((((⟨#[40]⟩ : ByteArray) ++ x5_1) ++ t237) ++ t247).size + 1 ≤ 9223372036854775807 then (impl_climber_climb.l0 kj7 a1 (((((⟨#[40]⟩ : ByteArray) ++ x5_1) ++ t237) ++ t247) ++ (⟨#[41]⟩ : ByteArray)) s0_0 t248 t249) else (none)) else (none)) else (none)) else (none)) = some (r1, r2, r3) := H
                  have A30 := Aside0.mk A300
                  clear A300
                  by_cases c31 : 1 + x5_1.size ≤ 9223372036854775807
                  · rw [if_pos c31] at H
                    have c31b0 := eq_true c31
                    have c31b1 : decide (1 + x5_1.size ≤ 9223372036854775807) = true := decide_eq_true c31
                    try have c31b2 : (9223372036854775807 < 1 + x5_1.size) = False := eq_false (Nat.not_lt.2 c31)
                    by_cases c32 : ((⟨#[40]⟩ : ByteArray) ++ x5_1).size + t237.size ≤ 9223372036854775807
                    · rw [if_pos c32] at H
                      have c32b0 := eq_true c32
                      have c32b1 : decide (((⟨#[40]⟩ : ByteArray) ++ x5_1).size + t237.size ≤ 9223372036854775807) = true := decide_eq_true c32
                      try (have c32s := c32; simp only [ByteArray.size_append] at c32s; replace c32s := eq_false (Nat.not_lt.2 c32s))
                      try (have c32n := c32; simp only [ByteArray.size_append] at c32n; simp only [show (⟨#[40]⟩ : ByteArray).size = 1 from rfl] at c32n; replace c32n := eq_false (Nat.not_lt.2 c32n))
                      try have c32b2 : (9223372036854775807 < ((⟨#[40]⟩ : ByteArray) ++ x5_1).size + t237.size) = False := eq_false (Nat.not_lt.2 c32)
                      by_cases c33 : (((⟨#[40]⟩ : ByteArray) ++ x5_1) ++ t237).size + t247.size ≤ 9223372036854775807
                      · rw [if_pos c33] at H
                        have c33b0 := eq_true c33
                        have c33b1 : decide ((((⟨#[40]⟩ : ByteArray) ++ x5_1) ++ t237).size + t247.size ≤ 9223372036854775807) = true := decide_eq_true c33
                        try (have c33s := c33; simp only [ByteArray.size_append] at c33s; replace c33s := eq_false (Nat.not_lt.2 c33s))
                        try (have c33n := c33; simp only [ByteArray.size_append] at c33n; simp only [show (⟨#[40]⟩ : ByteArray).size = 1 from rfl] at c33n; replace c33n := eq_false (Nat.not_lt.2 c33n))
                        try have c33b2 : (9223372036854775807 < (((⟨#[40]⟩ : ByteArray) ++ x5_1) ++ t237).size + t247.size) = False := eq_false (Nat.not_lt.2 c33)
                        by_cases c34 : ((((⟨#[40]⟩ : ByteArray) ++ x5_1) ++ t237) ++ t247).size + 1 ≤ 9223372036854775807
                        · rw [if_pos c34] at H
                          have c34b0 := eq_true c34
                          have c34b1 : decide (((((⟨#[40]⟩ : ByteArray) ++ x5_1) ++ t237) ++ t247).size + 1 ≤ 9223372036854775807) = true := decide_eq_true c34
                          try (have c34s := c34; simp only [ByteArray.size_append] at c34s; replace c34s := eq_false (Nat.not_lt.2 c34s))
                          try (have c34n := c34; simp only [ByteArray.size_append] at c34n; simp only [show (⟨#[40]⟩ : ByteArray).size = 1 from rfl] at c34n; replace c34n := eq_false (Nat.not_lt.2 c34n))
                          try have c34b2 : (9223372036854775807 < ((((⟨#[40]⟩ : ByteArray) ++ x5_1) ++ t237) ++ t247).size + 1) = False := eq_false (Nat.not_lt.2 c34)
                          have H' := Aside0.mk H
                          clear H
                          obtain ⟨ASz35_0, cSz35_0, HGz35, hgz35, HSz35_0⟩ := HI0.out
                          have hcz35_0 := cellS126_0 HGz35
                          have hcz35_1 := cellS126_1 HGz35
                          have hcz35_2 := cellS126_2 HGz35
                          have hfz35_1 := blk_frozen HGz35 1
                          have hfz35_2 := blk_frozen HGz35 2
                          clear HGz35 hgz35
                          have hnb36 := NB243_0.out
                          have hnc36 := NB0_243.out
                          obtain ⟨hcz37_0, hcz37_1, hcz37_2, hfz37_0, hfz37_1, hfz37_2⟩ := bc3 BK243.out
                          go_wp2_with (first | ((with_reducible refine gate_callee (f := 84) rfl ?_); refine goesL_ (some 47) rfl rfl Try.func84 (by kernel_rfl) rfl #[.pointer (some ⟨g, 0, none⟩), .int .i64 (wrap64 (t238 + 1))] rfl (by (try simp only [List.map_toArray, List.map_cons, List.map_nil]); first | done | rfl | (simp only [List.length_drop, List.length_take]; rfl)) ?_; (with_reducible refine (ih kj7 (by have := HK1.out; have := HJ7.out; omega) g s0_0 (t241.extract 1 t241.size) t242 (wrap64 (t238 + 1)) t247 t248 t249 w0 _ ?side1 ?side2 A30.out).mono ?_); (case side1 => repeat (first | (with_reducible first | exact HI0.out | apply IsS126.alloc | apply IsS126.drewN | apply IsS126.drew | apply IsS126.set_1 | apply IsS126.set_2 | refine IsS126.far ?_ NB0_243.out _) | exact HI0.out)); (case side2 => repeat (first | (with_reducible first | exact HB.out | apply below_alloc | apply pw_below_drewN | apply below_drew1 | refine below_set ?_ (IsS126.ge HI0.out) | refine below_set ?_ GE243.out) | exact HB.out)); rintro e w38 ⟨rfl, hi, hb, hk⟩; refine ⟨_, rfl, ?_⟩; have n0_ := Aside0.mk (KeepBut.blk hk (g' := gb243) (o := .cells #[.string t237, .int .i64 t238, .bool false] 128 (0, 0)) bx NB243_0.out (by simp)); have n1_ := Aside0.mk (KeepBut.trans (by repeat (first | (with_reducible first | exact HK.out | apply KeepBut.set_ | apply keep_drewN | apply keep_drew | apply keep_alloc | refine keep_far ?_ GW243.out _) | exact HK.out)) hk (.inl rfl)); have n2_ := Aside0.mk (hb); have n3_ := Aside0.mk (hi); clear BK243; clear HK; clear HB; clear HI0; have BK243 := n0_; have HK := n1_; have HB := n2_; have HI0 := n3_; clear n0_ n1_ n2_ n3_; (try clear hb); (try clear hb2); (try clear hk); (try clear hi); obtain ⟨hcz39_0, hcz39_1, hcz39_2, hfz39_0, hfz39_1, hfz39_2⟩ := bc3 BK243.out))
                          go_roundg kj7
                          case measure => have := HK1.out; have := HJ7.out; omega
                          case rel => exact ⟨(((((⟨#[40]⟩ : ByteArray) ++ x5_1) ++ t237) ++ t247) ++ (⟨#[41]⟩ : ByteArray)), (t248), (t249), (by first | rfl | (simp; done) | (simp [*]; done) | (simp [isE0, isE1]; done)), H', ⟨by have := HK1.out; have := HJ7.out; omega⟩, ⟨by repeat (first | (with_reducible first | exact HI0.out | apply IsS126.alloc | apply IsS126.drewN | apply IsS126.drew | apply IsS126.set_1 | apply IsS126.set_2 | refine IsS126.far ?_ NB0_243.out _) | exact HI0.out)⟩, ⟨by repeat (first | (with_reducible first | exact HK.out | apply KeepBut.set_ | apply keep_drewN | apply keep_drew | apply keep_alloc | refine keep_far ?_ GW243.out _) | exact HK.out)⟩, ⟨by repeat (first | (with_reducible first | exact HB.out | apply below_alloc | apply pw_below_drewN | apply below_drew1 | refine below_set ?_ (IsS126.ge HI0.out) | refine below_set ?_ GE243.out) | exact HB.out)⟩⟩
                        · rw [if_neg c34] at H
                          exact absurd H (by simp)
                      · rw [if_neg c33] at H
                        exact absurd H (by simp)
                    · rw [if_neg c32] at H
                      exact absurd H (by simp)
                  · rw [if_neg c31] at H
                    exact absurd H (by simp)
              · rw [if_neg c18] at H
                exact absurd H (by simp)

/-! ### impl_Climb: function 32 -/
def impl_Climb.j0 : Nat → List (S128) → ByteArray → Bool → Option (ByteArray × Bool)
  | 0, _, _, _ => none
  | k + 1, x0, x1, x15 => if x15 = true then (some ((⟨#[]⟩ : ByteArray), false)) else ((impl_climber_climb.f k x0 x1 false 0).bind fun bt252 => (if bt252.2.2 = true then (some ((⟨#[]⟩ : ByteArray), false)) else (if bt252.2.1.toList = ([] : List UInt8) then (some (bt252.1, true)) else (some ((⟨#[]⟩ : ByteArray), false)))))
def impl_Climb.f (k : Nat) (l0 : List (S128)) (a1 : ByteArray) : Option (ByteArray × Bool) := (impl_OpsOk.f k l0).bind fun t250 => (if t250 = true then (impl_Climb.j0 k l0 a1 (decide ((a1.size : Int) > 12))) else (impl_Climb.j0 k l0 a1 true))
theorem impl_Climb.mono_l : ∀ k, (∀ y0 y1 y2, LeO (impl_Climb.j0 k y0 y1 y2) (impl_Climb.j0 (k + 1) y0 y1 y2))
  | 0 => fun _ _ _ r h => by simp [impl_Climb.j0] at h
  | k + 1 => by
    have ih0 := impl_Climb.mono_l k
    · intro y0 y1 y2
      unfold impl_Climb.j0
      repeat' first
      | (with_reducible exact ih0 _ _ _)
      | (with_reducible exact impl_OpsOk.mono _ _)
      | (with_reducible exact impl_climber_climb.mono _ _ _ _ _)
      | (with_reducible exact LeO.refl _)
      | (with_reducible exact LeO.none _)
      | (with_reducible refine LeO.ite ?_ ?_)
      | (with_reducible refine LeO.bind ?_ (fun _ => ?_))
      | exact ih0 _ _ _
      | exact impl_OpsOk.mono _ _
      | exact impl_climber_climb.mono _ _ _ _ _
      | exact LeO.none _
      | refine LeO.ite ?_ ?_
      | refine LeO.bind ?_ (fun _ => ?_)
theorem impl_Climb.mono : ∀ a0 a1 k, LeO (impl_Climb.f k a0 a1) (impl_Climb.f (k + 1) a0 a1) := by
  intro a0 a1 k
  have ih0 := impl_Climb.mono_l k
  unfold impl_Climb.f
  repeat' first
      | (with_reducible exact ih0 _ _ _)
      | (with_reducible exact impl_OpsOk.mono _ _)
      | (with_reducible exact impl_climber_climb.mono _ _ _ _ _)
      | (with_reducible exact LeO.refl _)
      | (with_reducible exact LeO.none _)
      | (with_reducible refine LeO.ite ?_ ?_)
      | (with_reducible refine LeO.bind ?_ (fun _ => ?_))
      | exact ih0 _ _ _
      | exact impl_OpsOk.mono _ _
      | exact impl_climber_climb.mono _ _ _ _ _
      | exact LeO.none _
      | refine LeO.ite ?_ ?_
      | refine LeO.bind ?_ (fun _ => ?_)
set_option maxHeartbeats 8000000 in
set_option maxRecDepth 100000 in
theorem impl_Climb.calls (k : Nat) (A0 : Option Addr) (c0 : Nat) (l0 : List (S128)) (a1 : ByteArray) (r1 : ByteArray) (r2 : Bool) (w : World) (hr0 : Kd.C k128 w A0 l0.length l0) (hc0 : l0.length ≤ c0) (h : impl_Climb.f k l0 a1 = some (r1, r2)) :
    Calls Try.prog 32 #[.slice A0 l0.length c0, .string a1] w fun e w' => e = .returned (.tuple #[.string r1, .bool r2]) ∧ Below w.heap.size w w' := by
  have hu126 := Try.underlying126
  have HR0 := Aside0.mk hr0
  have HC0 := Aside0.mk hc0
  clear hr0 hc0
  have HB := Aside0.mk (Below.refl w.heap.size w)
  have H : ((impl_OpsOk.f k l0).bind fun t250 => (if t250 = true then (impl_Climb.j0 k l0 a1 (decide ((a1.size : Int) > 12))) else (impl_Climb.j0 k l0 a1 true))) = some (r1, r2) := h
  clear h
  have HC3 := Aside0.mk H
  clear H
  go_enter Try.func32, Try.ntmps32
  go_upto_region 1 with (fail)
  go_cut [15] (fun v15 wc => ∃ (kq : Nat) (x15_2 : Bool), v15 = .bool x15_2 ∧ Aside0 (impl_Climb.j0 kq l0 a1 x15_2 = some (r1, r2)) ∧ Aside0 (kq ≤ k) ∧ Aside0 (Below w.heap.size w wc))
  case first =>
    have H := HC3.out
    clear HC3
    replace H := Option.bind_eq_some_iff.mp H
    obtain ⟨t250, A40, H⟩ := H
    replace H : (if t250 = true then (impl_Climb.j0 k l0 a1 (decide ((a1.size : Int) > 12))) else (impl_Climb.j0 k l0 a1 true)) = some (r1, r2) := H
    have A4 := Aside0.mk A40
    clear A40
    by_cases c5 : t250 = true
    · subst c5
      have H1 : (impl_Climb.j0 k l0 a1 (decide ((a1.size : Int) > 12))) = some (r1, r2) := by rw [if_pos rfl] at H; exact H
      clear H
      have H := H1
      clear H1
      have H' := Aside0.mk H
      clear H
      go_wp2_with (first | ((with_reducible refine gate_callee (f := 33) rfl ?_); refine goesL_ (some 9) rfl rfl Try.func33 (by kernel_rfl) rfl #[.slice A0 l0.length c0] rfl (by (try simp only [List.map_toArray, List.map_cons, List.map_nil]); first | done | rfl | (simp only [List.length_drop, List.length_take]; rfl)) ?_; (with_reducible refine (impl_OpsOk.calls k _ _ l0 true _ ?side1 ?side2 A4.out).mono ?_); (case side1 => exact kb); (case side2 => exact HC0.out); rintro e w6 ⟨rfl, hb⟩; refine ⟨_, rfl, ?_⟩; have n0_ := Aside0.mk (below_step bw hb); clear HB; have HB := n0_; clear n0_; (try clear hb); (try clear hb2); (try clear hk); (try clear hi)))
      go_meet
      case rel => exact ⟨_, (decide ((a1.size : Int) > 12)), (by first | rfl | (simp; done) | (simp [*]; done) | (simp [isE0, isE1]; done)), H', ⟨by first | omega | exact Nat.le_refl _⟩, ⟨by repeat (first | (with_reducible first | exact HB.out | apply below_alloc | apply pw_below_drewN | apply below_drew1) | exact HB.out)⟩⟩
    · replace c5 := Bool.eq_false_iff.mpr c5
      subst c5
      have H1 : (impl_Climb.j0 k l0 a1 true) = some (r1, r2) := by rw [if_neg (show ¬ (false = true) by decide)] at H; exact H
      clear H
      have H := H1
      clear H1
      have H' := Aside0.mk H
      clear H
      go_wp2_with (first | ((with_reducible refine gate_callee (f := 33) rfl ?_); refine goesL_ (some 9) rfl rfl Try.func33 (by kernel_rfl) rfl #[.slice A0 l0.length c0] rfl (by (try simp only [List.map_toArray, List.map_cons, List.map_nil]); first | done | rfl | (simp only [List.length_drop, List.length_take]; rfl)) ?_; (with_reducible refine (impl_OpsOk.calls k _ _ l0 false _ ?side1 ?side2 A4.out).mono ?_); (case side1 => exact kb); (case side2 => exact HC0.out); rintro e w7 ⟨rfl, hb⟩; refine ⟨_, rfl, ?_⟩; have n0_ := Aside0.mk (below_step bw hb); clear HB; have HB := n0_; clear n0_; (try clear hb); (try clear hb2); (try clear hk); (try clear hi)))
      go_meet
      case rel => exact ⟨_, (true), (by first | rfl | (simp; done) | (simp [*]; done) | (simp [isE0, isE1]; done)), H', ⟨by first | omega | exact Nat.le_refl _⟩, ⟨by repeat (first | (with_reducible first | exact HB.out | apply below_alloc | apply pw_below_drewN | apply below_drew1) | exact HB.out)⟩⟩
  case rest =>
    clear HC3
    try clear p2
    try clear c3
    try clear c5
    obtain ⟨kq, x15_2, rfl, HA, HJ2, HB⟩ := hcut
    cases kq with
    | zero => exact absurd HA.out (by simp [impl_Climb.j0])
    | succ kj2 =>
      have H := HA.out
      clear HA
      simp only [impl_Climb.j0] at H
      by_cases c8 : x15_2 = true
      · subst c8
        have H1 : (some ((⟨#[]⟩ : ByteArray), false)) = some (r1, r2) := by rw [if_pos rfl] at H; exact H
        clear H
        have H := H1
        clear H1
        simp only [Option.some.injEq, Prod.mk.injEq] at H
        obtain ⟨rfl, rfl⟩ := H
        go_wp2
        go_ret2
        exact ⟨by first | rfl | (simp [errW_none, errW_some] <;> rfl) | (simp [*, errW_none, errW_some] <;> rfl), by repeat (first | (with_reducible first | exact HB.out | apply below_alloc | apply pw_below_drewN | apply below_drew1) | exact HB.out)⟩
      · replace c8 := Bool.eq_false_iff.mpr c8
        subst c8
        have H1 : ((impl_climber_climb.f kj2 l0 a1 false 0).bind fun bt252 => (if bt252.2.2 = true then (some ((⟨#[]⟩ : ByteArray), false)) else (if bt252.2.1.toList = ([] : List UInt8) then (some (bt252.1, true)) else (some ((⟨#[]⟩ : ByteArray), false))))) = some (r1, r2) := by rw [if_neg (show ¬ (false = true) by decide)] at H; exact H
        clear H
        have H := H1
        clear H1
        replace H := Option.bind_eq_some_iff.mp H
        obtain ⟨⟨t252, t253, t254⟩, A90, H⟩ := H
        replace H : (if t254 = true then (some ((⟨#[]⟩ : ByteArray), false)) else (if t253.toList = ([] : List UInt8) then (some (t252, true)) else (some ((⟨#[]⟩ : ByteArray), false)))) = some (r1, r2) := H
        have A9 := Aside0.mk A90
        clear A90
        by_cases c10 : t254 = true
        · subst c10
          have H1 : (some ((⟨#[]⟩ : ByteArray), false)) = some (r1, r2) := by rw [if_pos rfl] at H; exact H
          clear H
          have H := H1
          clear H1
          simp only [Option.some.injEq, Prod.mk.injEq] at H
          obtain ⟨rfl, rfl⟩ := H
          go_wp2_with (first | ((with_reducible refine gate_dst (N := 19) rfl ?_); (try (refine gate_guard (by rfl) ?_; dsimp only)); refine box_event ?hg (N := 19) ?hd (cs := #[.slice A0 l0.length c0, .string a1, .bool false]) (t := 126) ?hr ?_; (case hd => rfl); (case hg => rfl); (case hr => first | (go_simp; done) | (go_simp; rfl)); intro gb251 hg w11 hbox hb; have n0_ := Aside0.mk (below_step bw hb); have n1_ := Aside0.mk ((show IsS126 w _ gb251 l0 a1 false from ⟨_, _, hbox, (bz bw hg : w.heap.size ≤ gb251), HR0.out⟩)); have n2_ := Aside0.mk ((bz bw hg : w.heap.size ≤ gb251)); have n3_ := Aside0.mk ((bz bw hg : w.heap.size ≤ gb251)); clear HB; have HB := n0_; have HI251 := n1_; have GW251 := n2_; have GE251 := n3_; clear n0_ n1_ n2_ n3_; clear hb hbox hg) | ((with_reducible refine gate_callee (f := 84) rfl ?_); refine goesL_ (some 21) rfl rfl Try.func84 (by kernel_rfl) rfl #[.pointer (some ⟨gb251, 0, none⟩), .int .i64 0] rfl (by (try simp only [List.map_toArray, List.map_cons, List.map_nil]); first | done | rfl | (simp only [List.length_drop, List.length_take]; rfl)) ?_; (with_reducible refine (impl_climber_climb.calls kj2 gb251 l0 a1 false 0 t252 t253 true w _ ?side1 ?side2 A9.out).mono ?_); (case side1 => repeat (first | (with_reducible first | exact HI251.out | apply IsS126.alloc | apply IsS126.drewN | apply IsS126.drew | apply IsS126.set_1 | apply IsS126.set_2) | exact HI251.out)); (case side2 => repeat (first | (with_reducible first | exact HB.out | apply below_alloc | apply pw_below_drewN | apply below_drew1 | refine below_set ?_ (IsS126.ge HI251.out)) | exact HB.out)); rintro e w12 ⟨rfl, hi, hb, hk⟩; refine ⟨_, rfl, ?_⟩; have n0_ := Aside0.mk (hb); have n1_ := Aside0.mk (hi); clear HB; clear HI251; have HB := n0_; have HI251 := n1_; clear n0_ n1_; (try clear hb); (try clear hb2); (try clear hk); (try clear hi); obtain ⟨ASz13_0, cSz13_0, HGz13, hgz13, HSz13_0⟩ := HI251.out; have hcz13_0 := cellS126_0 HGz13; have hcz13_1 := cellS126_1 HGz13; have hcz13_2 := cellS126_2 HGz13; have hfz13_1 := blk_frozen HGz13 1; have hfz13_2 := blk_frozen HGz13 2; clear HGz13 hgz13))
          go_ret2
          exact ⟨by first | rfl | (simp [errW_none, errW_some] <;> rfl) | (simp [*, errW_none, errW_some] <;> rfl), by repeat (first | (with_reducible first | exact HB.out | apply below_alloc | apply pw_below_drewN | apply below_drew1 | refine below_set ?_ (IsS126.ge HI251.out)) | exact HB.out)⟩
        · replace c10 := Bool.eq_false_iff.mpr c10
          subst c10
          have H1 : (if t253.toList = ([] : List UInt8) then (some (t252, true)) else (some ((⟨#[]⟩ : ByteArray), false))) = some (r1, r2) := by rw [if_neg (show ¬ (false = true) by decide)] at H; exact H
          clear H
          have H := H1
          clear H1
          by_cases c14 : t253.toList = ([] : List UInt8)
          · rw [if_pos c14] at H
            have c14b0 : (t253.toList == ([] : List UInt8)) = true := beq_iff_eq.mpr c14
            have c14b1 : (t253.toList != ([] : List UInt8)) = false := bne_eq_false_iff_eq.mpr c14
            clear c14
            simp only [Option.some.injEq, Prod.mk.injEq] at H
            obtain ⟨rfl, rfl⟩ := H
            go_wp2_with (first | ((with_reducible refine gate_dst (N := 19) rfl ?_); (try (refine gate_guard (by rfl) ?_; dsimp only)); refine box_event ?hg (N := 19) ?hd (cs := #[.slice A0 l0.length c0, .string a1, .bool false]) (t := 126) ?hr ?_; (case hd => rfl); (case hg => rfl); (case hr => first | (go_simp; done) | (go_simp; rfl)); intro gb251 hg w15 hbox hb; have n0_ := Aside0.mk (below_step bw hb); have n1_ := Aside0.mk ((show IsS126 w _ gb251 l0 a1 false from ⟨_, _, hbox, (bz bw hg : w.heap.size ≤ gb251), HR0.out⟩)); have n2_ := Aside0.mk ((bz bw hg : w.heap.size ≤ gb251)); have n3_ := Aside0.mk ((bz bw hg : w.heap.size ≤ gb251)); clear HB; have HB := n0_; have HI251 := n1_; have GW251 := n2_; have GE251 := n3_; clear n0_ n1_ n2_ n3_; clear hb hbox hg) | ((with_reducible refine gate_callee (f := 84) rfl ?_); refine goesL_ (some 21) rfl rfl Try.func84 (by kernel_rfl) rfl #[.pointer (some ⟨gb251, 0, none⟩), .int .i64 0] rfl (by (try simp only [List.map_toArray, List.map_cons, List.map_nil]); first | done | rfl | (simp only [List.length_drop, List.length_take]; rfl)) ?_; (with_reducible refine (impl_climber_climb.calls kj2 gb251 l0 a1 false 0 t252 t253 false w _ ?side1 ?side2 A9.out).mono ?_); (case side1 => repeat (first | (with_reducible first | exact HI251.out | apply IsS126.alloc | apply IsS126.drewN | apply IsS126.drew | apply IsS126.set_1 | apply IsS126.set_2) | exact HI251.out)); (case side2 => repeat (first | (with_reducible first | exact HB.out | apply below_alloc | apply pw_below_drewN | apply below_drew1 | refine below_set ?_ (IsS126.ge HI251.out)) | exact HB.out)); rintro e w16 ⟨rfl, hi, hb, hk⟩; refine ⟨_, rfl, ?_⟩; have n0_ := Aside0.mk (hb); have n1_ := Aside0.mk (hi); clear HB; clear HI251; have HB := n0_; have HI251 := n1_; clear n0_ n1_; (try clear hb); (try clear hb2); (try clear hk); (try clear hi); obtain ⟨ASz17_0, cSz17_0, HGz17, hgz17, HSz17_0⟩ := HI251.out; have hcz17_0 := cellS126_0 HGz17; have hcz17_1 := cellS126_1 HGz17; have hcz17_2 := cellS126_2 HGz17; have hfz17_1 := blk_frozen HGz17 1; have hfz17_2 := blk_frozen HGz17 2; clear HGz17 hgz17))
            go_ret2
            exact ⟨by first | rfl | (simp [errW_none, errW_some] <;> rfl) | (simp [*, errW_none, errW_some] <;> rfl), by repeat (first | (with_reducible first | exact HB.out | apply below_alloc | apply pw_below_drewN | apply below_drew1 | refine below_set ?_ (IsS126.ge HI251.out)) | exact HB.out)⟩
          · rw [if_neg c14] at H
            have c14b0 : (t253.toList == ([] : List UInt8)) = false := beq_eq_false_iff_ne.mpr c14
            have c14b1 : (t253.toList != ([] : List UInt8)) = true := bne_iff_ne.mpr c14
            simp only [Option.some.injEq, Prod.mk.injEq] at H
            obtain ⟨rfl, rfl⟩ := H
            go_wp2_with (first | ((with_reducible refine gate_dst (N := 19) rfl ?_); (try (refine gate_guard (by rfl) ?_; dsimp only)); refine box_event ?hg (N := 19) ?hd (cs := #[.slice A0 l0.length c0, .string a1, .bool false]) (t := 126) ?hr ?_; (case hd => rfl); (case hg => rfl); (case hr => first | (go_simp; done) | (go_simp; rfl)); intro gb251 hg w18 hbox hb; have n0_ := Aside0.mk (below_step bw hb); have n1_ := Aside0.mk ((show IsS126 w _ gb251 l0 a1 false from ⟨_, _, hbox, (bz bw hg : w.heap.size ≤ gb251), HR0.out⟩)); have n2_ := Aside0.mk ((bz bw hg : w.heap.size ≤ gb251)); have n3_ := Aside0.mk ((bz bw hg : w.heap.size ≤ gb251)); clear HB; have HB := n0_; have HI251 := n1_; have GW251 := n2_; have GE251 := n3_; clear n0_ n1_ n2_ n3_; clear hb hbox hg) | ((with_reducible refine gate_callee (f := 84) rfl ?_); refine goesL_ (some 21) rfl rfl Try.func84 (by kernel_rfl) rfl #[.pointer (some ⟨gb251, 0, none⟩), .int .i64 0] rfl (by (try simp only [List.map_toArray, List.map_cons, List.map_nil]); first | done | rfl | (simp only [List.length_drop, List.length_take]; rfl)) ?_; (with_reducible refine (impl_climber_climb.calls kj2 gb251 l0 a1 false 0 t252 t253 false w _ ?side1 ?side2 A9.out).mono ?_); (case side1 => repeat (first | (with_reducible first | exact HI251.out | apply IsS126.alloc | apply IsS126.drewN | apply IsS126.drew | apply IsS126.set_1 | apply IsS126.set_2) | exact HI251.out)); (case side2 => repeat (first | (with_reducible first | exact HB.out | apply below_alloc | apply pw_below_drewN | apply below_drew1 | refine below_set ?_ (IsS126.ge HI251.out)) | exact HB.out)); rintro e w19 ⟨rfl, hi, hb, hk⟩; refine ⟨_, rfl, ?_⟩; have n0_ := Aside0.mk (hb); have n1_ := Aside0.mk (hi); clear HB; clear HI251; have HB := n0_; have HI251 := n1_; clear n0_ n1_; (try clear hb); (try clear hb2); (try clear hk); (try clear hi); obtain ⟨ASz20_0, cSz20_0, HGz20, hgz20, HSz20_0⟩ := HI251.out; have hcz20_0 := cellS126_0 HGz20; have hcz20_1 := cellS126_1 HGz20; have hcz20_2 := cellS126_2 HGz20; have hfz20_1 := blk_frozen HGz20 1; have hfz20_2 := blk_frozen HGz20 2; clear HGz20 hgz20))
            go_ret2
            exact ⟨by first | rfl | (simp [errW_none, errW_some] <;> rfl) | (simp [*, errW_none, errW_some] <;> rfl), by repeat (first | (with_reducible first | exact HB.out | apply below_alloc | apply pw_below_drewN | apply below_drew1 | refine below_set ?_ (IsS126.ge HI251.out)) | exact HB.out)⟩

end Go.Proofs.Ytlkbdoejeomlmaa.PFnParentheses
