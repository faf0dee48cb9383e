/- Written by a program of this session out of Lean's print of the translation: what the calls of these Go functions come to, in plain Lean. No condition. -/
import Derived.Test.YtlkbdoejeomlmaaPFnParenthesesx0
import Derived.Test.YtlkbdoejeomlmaaPFnParenthesesx1
import Derived.Test.YtlkbdoejeomlmaaPFnParenthesesx2
namespace Go.Proofs.Ytlkbdoejeomlmaa.PFnParentheses
open Go.RowKit Go.Proofs.YtlkbdoejeomlmaaW.PrintWords Go.Proofs.YtlkbdoejeomlmaaW.PrintLast Go.Proofs.YtlkbdoejeomlmaaW.PrintMore
attribute [local go_sem] max2_int min2_int max_two min_two max_three min_three max_four min_four   -- for this text's walks alone
set_option linter.unusedVariables false
set_option linter.unusedSimpArgs false

/-! ### spec_l13Ops: function 82 -/
def spec_l13Ops.l0 : Nat → List (S128) → List (S128) → Int → Int → List Int → Int → Int → Option ((List (S128)) × Int × Int)
  | 0, _, _, _, _, _, _, _ => none
  | k + 1, x3, x4, x5, x6, x1000, x1001, x1002 => (spec_l01Below.f x1000 x1001 x1002 4).bind fun bt148 => (if x6 < (wrap64 (1 + bt148.1)) then ((some (([] : List (S128)) : List (S128))).bind fun y151 => (if y151.length + x4.length < 4398046511104 then ((some (y151 ++ x4 : List (S128))).bind fun y154 => (if 0 ≤ (Int.tmod (wrap64 (x5 + x6)) 6) then (if (Int.tmod (wrap64 (x5 + x6)) 6) < (x3.length : Int) then ((some (([(⟨(rd_T128 x3 (Int.tmod (wrap64 (x5 + x6)) 6)).f0, (rd_T128 x3 (Int.tmod (wrap64 (x5 + x6)) 6)).f1, (rd_T128 x3 (Int.tmod (wrap64 (x5 + x6)) 6)).f2⟩ : S128)] : List (S128)) : List (S128))).bind fun y158 => (if y154.length + y158.length < 4398046511104 then ((some (y154 ++ y158 : List (S128))).bind fun y161 => ((spec_OpsOk.f k y161).bind fun t164 => (if t164 = true then (spec_l13Ops.l0 k x3 y161 x5 (wrap64 (x6 + 1)) x1000 bt148.2.1 bt148.2.2) else (spec_l13Ops.l0 k x3 x4 x5 (wrap64 (x6 + 1)) x1000 bt148.2.1 bt148.2.2)))) else (none))) else (none)) else (none))) else (none))) else (some (x4, bt148.2.1, bt148.2.2)))
def spec_l13Ops.f (k : Nat) (s0_0 : List Int) (s0_1 : Int) (s0_2 : Int) : Option ((List (S128)) × Int × Int) := (spec_l01Below.f s0_0 s0_1 s0_2 2).bind fun bt133 => ((spec_l01Once.f s0_0 bt133.2.1 bt133.2.2 2).bind fun bt136 => ((spec_l01Below.f s0_0 bt136.2.1 bt136.2.2 6).bind fun bt145 => (spec_l13Ops.l0 k (([(⟨(⟨#[43]⟩ : ByteArray), 2, false⟩ : S128), (⟨(⟨#[45]⟩ : ByteArray), 2, false⟩ : S128), (⟨(⟨#[42]⟩ : ByteArray), 4, false⟩ : S128), (⟨(⟨#[94]⟩ : ByteArray), 6, true⟩ : S128), (⟨(⟨#[61]⟩ : ByteArray), 1, true⟩ : S128), (⟨(⟨#[60]⟩ : ByteArray), wrap64 (1 + (wrap64 (2 * bt133.1))), bt136.1⟩ : S128)] : List (S128))) (([] : List (S128))) bt145.1 0 s0_0 bt145.2.1 bt145.2.2)))
theorem spec_l13Ops.mono_l : ∀ k, (∀ y0 y1 y2 y3 y4 y5 y6, LeO (spec_l13Ops.l0 k y0 y1 y2 y3 y4 y5 y6) (spec_l13Ops.l0 (k + 1) y0 y1 y2 y3 y4 y5 y6))
  | 0 => fun _ _ _ _ _ _ _ r h => by simp [spec_l13Ops.l0] at h
  | k + 1 => by
    have ih0 := spec_l13Ops.mono_l k
    · intro y0 y1 y2 y3 y4 y5 y6
      unfold spec_l13Ops.l0
      repeat' first
      | (with_reducible exact ih0 _ _ _ _ _ _ _)
      | (with_reducible exact spec_OpsOk.mono _ _)
      | (with_reducible exact LeO.refl _)
      | (with_reducible exact LeO.none _)
      | (with_reducible refine LeO.ite ?_ ?_)
      | (with_reducible refine LeO.bind ?_ (fun _ => ?_))
      | exact ih0 _ _ _ _ _ _ _
      | exact spec_OpsOk.mono _ _
      | exact LeO.none _
      | refine LeO.ite ?_ ?_
      | refine LeO.bind ?_ (fun _ => ?_)
theorem spec_l13Ops.mono : ∀ a0 a1 a2 k, LeO (spec_l13Ops.f k a0 a1 a2) (spec_l13Ops.f (k + 1) a0 a1 a2) := by
  intro a0 a1 a2 k
  have ih0 := spec_l13Ops.mono_l k
  unfold spec_l13Ops.f
  repeat' first
      | (with_reducible exact ih0 _ _ _ _ _ _ _)
      | (with_reducible exact spec_OpsOk.mono _ _)
      | (with_reducible exact LeO.refl _)
      | (with_reducible exact LeO.none _)
      | (with_reducible refine LeO.ite ?_ ?_)
      | (with_reducible refine LeO.bind ?_ (fun _ => ?_))
      | exact ih0 _ _ _ _ _ _ _
      | exact spec_OpsOk.mono _ _
      | exact LeO.none _
      | refine LeO.ite ?_ ?_
      | refine LeO.bind ?_ (fun _ => ?_)
def spec_l13Ops.T7 : Bool × List (List Nat × List Nat) := (true, [([], []), ([], []), ([0, 1], [0, 1]), ([], []), ([], []), ([], []), ([4, 5], [4, 5]), ([6], [6]), ([3, 7], [3, 7]), ([8], [8]), ([9], [9]), ([2, 10, 2], [2, 10]), ([11, 11, 0, 1, 2, 3, 4, 5, 6, 7, 8, 9, 10, 11], [11])])
def spec_l13Ops.B7 : List Nat := [0, 0, 3, 0, 0, 0, 48, 112, 248, 504, 1016, 2047, 4095]
theorem spec_l13Ops.tab7 : rtab .any (opsOf Try.f82 7) = spec_l13Ops.T7 := by kernel_rfl
theorem spec_l13Ops.bits7 : waitsOk spec_l13Ops.T7.2 spec_l13Ops.B7 = true := by kernel_rfl
set_option maxHeartbeats 8000000 in
set_option maxRecDepth 100000 in
theorem spec_l13Ops.calls (k : Nat) (g : Nat) (s0_0 : List Int) (s0_1 : Int) (s0_2 : Int) (r1 : List (S128)) (r2 : Int) (r3 : Int) (w0 w : World) (hI : IsS190 w0 w g s0_0 s0_1 s0_2) (hB : Below w0.heap.size w0 w) (h : spec_l13Ops.f k s0_0 s0_1 s0_2 = some (r1, r2, r3)) :
    Calls Try.prog 82 #[.pointer (some ⟨g, 0, none⟩)] w fun e w' => ∃ v0_ : Value, e = .returned (v0_) ∧ Kd.R k128 128 w' w.heap.size (fun _ => True) v0_ r1 ∧ IsS190 w0 w' g s0_0 r2 r3 ∧ Below w0.heap.size w0 w' ∧ KeepBut w w' g none := by
  have hu128 := Try.underlying128
  have HI0 := Aside0.mk hI
  have HK := Aside0.mk (KeepBut.refl w g none)
  have HL := Aside0.mk hB.size
  clear hI
  have HW0 := Aside0.mk hB.size
  have HB := Aside0.mk hB
  clear hB
  have H : ((spec_l01Below.f s0_0 s0_1 s0_2 2).bind fun bt133 => ((spec_l01Once.f s0_0 bt133.2.1 bt133.2.2 2).bind fun bt136 => ((spec_l01Below.f s0_0 bt136.2.1 bt136.2.2 6).bind fun bt145 => (spec_l13Ops.l0 k (([(⟨(⟨#[43]⟩ : ByteArray), 2, false⟩ : S128), (⟨(⟨#[45]⟩ : ByteArray), 2, false⟩ : S128), (⟨(⟨#[42]⟩ : ByteArray), 4, false⟩ : S128), (⟨(⟨#[94]⟩ : ByteArray), 6, true⟩ : S128), (⟨(⟨#[61]⟩ : ByteArray), 1, true⟩ : S128), (⟨(⟨#[60]⟩ : ByteArray), wrap64 (1 + (wrap64 (2 * bt133.1))), bt136.1⟩ : S128)] : List (S128))) (([] : List (S128))) bt145.1 0 s0_0 bt145.2.1 bt145.2.2)))) = some (r1, r2, r3) := h
  clear h
  replace H := Option.bind_eq_some_iff.mp H
  obtain ⟨⟨t133, t134, t135⟩, A20, H⟩ := H
  replace H : ((spec_l01Once.f s0_0 t134 t135 2).bind fun bt136 => ((spec_l01Below.f s0_0 bt136.2.1 bt136.2.2 6).bind fun bt145 => (spec_l13Ops.l0 k (([(⟨(⟨#[43]⟩ : ByteArray), 2, false⟩ : S128), (⟨(⟨#[45]⟩ : ByteArray), 2, false⟩ : S128), (⟨(⟨#[42]⟩ : ByteArray), 4, false⟩ : S128), (⟨(⟨#[94]⟩ : ByteArray), 6, true⟩ : S128), (⟨(⟨#[61]⟩ : ByteArray), 1, true⟩ : S128), (⟨(⟨#[60]⟩ : ByteArray), wrap64 (1 + (wrap64 (2 * t133))), bt136.1⟩ : S128)] : List (S128))) (([] : List (S128))) bt145.1 0 s0_0 bt145.2.1 bt145.2.2))) = some (r1, r2, r3) := H
  have A2 := Aside0.mk A20
  clear A20
  replace H := Option.bind_eq_some_iff.mp H
  obtain ⟨⟨t136, t137, t138⟩, A30, H⟩ := H
  replace H : ((spec_l01Below.f s0_0 t137 t138 6).bind fun bt145 => (spec_l13Ops.l0 k (([(⟨(⟨#[43]⟩ : ByteArray), 2, false⟩ : S128), (⟨(⟨#[45]⟩ : ByteArray), 2, false⟩ : S128), (⟨(⟨#[42]⟩ : ByteArray), 4, false⟩ : S128), (⟨(⟨#[94]⟩ : ByteArray), 6, true⟩ : S128), (⟨(⟨#[61]⟩ : ByteArray), 1, true⟩ : S128), (⟨(⟨#[60]⟩ : ByteArray), wrap64 (1 + (wrap64 (2 * t133))), t136⟩ : S128)] : List (S128))) (([] : List (S128))) bt145.1 0 s0_0 bt145.2.1 bt145.2.2)) = some (r1, r2, r3) := H
  have A3 := Aside0.mk A30
  clear A30
  obtain ⟨y139, hy139⟩ : ∃ y_ : List (S128), y_ = (([(⟨(⟨#[43]⟩ : ByteArray), 2, false⟩ : S128), (⟨(⟨#[45]⟩ : ByteArray), 2, false⟩ : S128), (⟨(⟨#[42]⟩ : ByteArray), 4, false⟩ : S128), (⟨(⟨#[94]⟩ : ByteArray), 6, true⟩ : S128), (⟨(⟨#[61]⟩ : ByteArray), 1, true⟩ : S128), (⟨(⟨#[60]⟩ : ByteArray), wrap64 (1 + (wrap64 (2 * t133))), t136⟩ : S128)] : List (S128))) := ⟨_, rfl⟩
  replace H : ((spec_l01Below.f s0_0 t137 t138 6).bind fun bt145 => (spec_l13Ops.l0 k y139 (([] : List (S128))) bt145.1 0 s0_0 bt145.2.1 bt145.2.2)) = some (r1, r2, r3) := by first | (rw [hy139]; with_reducible exact H) | (have H2_ := (Option.bind_some _ _).symm.trans H; rw [hy139]; with_reducible exact H2_) | (have H2_ := (Option.bind_some _ _).symm.trans H; with_reducible exact H2_) | with_reducible exact H | (rw [hy139]; exact H) | exact H
  have Ny139 := Aside0.mk hy139
  clear hy139
  obtain ⟨y142, hy142⟩ : ∃ y_ : List (S128), y_ = (([] : List (S128))) := ⟨_, rfl⟩
  replace H : ((spec_l01Below.f s0_0 t137 t138 6).bind fun bt145 => (spec_l13Ops.l0 k y139 y142 bt145.1 0 s0_0 bt145.2.1 bt145.2.2)) = some (r1, r2, r3) := by first | (rw [hy142]; with_reducible exact H) | (have H2_ := (Option.bind_some _ _).symm.trans H; rw [hy142]; with_reducible exact H2_) | (have H2_ := (Option.bind_some _ _).symm.trans H; with_reducible exact H2_) | with_reducible exact H | (rw [hy142]; exact H) | exact H
  have Ny142 := Aside0.mk hy142
  clear hy142
  replace H := Option.bind_eq_some_iff.mp H
  obtain ⟨⟨t145, t146, t147⟩, A40, H⟩ := H
  replace H : (spec_l13Ops.l0 k y139 y142 t145 0 s0_0 t146 t147) = some (r1, r2, r3) := H
  have A4 := Aside0.mk A40
  clear A40
  have H' := Aside0.mk H
  clear H
  go_enter Try.func82, Try.ntmps82
  go_wp2_with (first | ((with_reducible refine gate_callee (f := 132) rfl ?_); refine goesL_ (some 14) rfl rfl Try.func132 (by kernel_rfl) rfl #[.pointer (some ⟨g, 0, none⟩), .int .i64 2] rfl (by (try simp only [List.map_toArray, List.map_cons, List.map_nil]); first | done | rfl | (simp only [List.length_drop, List.length_take]; rfl)) ?_; (with_reducible refine (spec_l01Below.calls g s0_0 s0_1 s0_2 2 t133 t134 t135 w0 _ ?side1 ?side2 A2.out).mono ?_); (case side1 => repeat (first | (with_reducible first | exact HI0.out | apply IsS190.alloc | apply IsS190.drewN | apply IsS190.drew | apply IsS190.set_1 | apply IsS190.set_2) | exact HI0.out)); (case side2 => repeat (first | (with_reducible first | exact HB.out | apply below_alloc | apply pw_below_drewN | apply below_drew1 | refine below_set ?_ (IsS190.ge HI0.out)) | exact HB.out)); rintro e w5 ⟨rfl, hi, hb, hk⟩; refine ⟨_, rfl, ?_⟩; have n0_ := Aside0.mk (KeepBut.trans (by repeat (first | (with_reducible first | exact HK.out | apply KeepBut.set_ | apply keep_drewN | apply keep_drew | apply keep_alloc) | exact HK.out)) hk (.inl rfl)); have n1_ := Aside0.mk (hb); have n2_ := Aside0.mk (hi); clear HK; clear HB; clear HI0; have HK := n0_; have HB := n1_; have HI0 := n2_; clear n0_ n1_ n2_; (try clear hb); (try clear hb2); (try clear hk); (try clear hi)) | ((with_reducible refine gate_callee (f := 149) rfl ?_); refine goesL_ (some 18) rfl rfl Try.func149 (by kernel_rfl) rfl #[.pointer (some ⟨g, 0, none⟩), .int .i64 2] rfl (by (try simp only [List.map_toArray, List.map_cons, List.map_nil]); first | done | rfl | (simp only [List.length_drop, List.length_take]; rfl)) ?_; (with_reducible refine (spec_l01Once.calls g s0_0 t134 t135 2 t136 t137 t138 w0 _ ?side1 ?side2 A3.out).mono ?_); (case side1 => repeat (first | (with_reducible first | exact HI0.out | apply IsS190.alloc | apply IsS190.drewN | apply IsS190.drew | apply IsS190.set_1 | apply IsS190.set_2) | exact HI0.out)); (case side2 => repeat (first | (with_reducible first | exact HB.out | apply below_alloc | apply pw_below_drewN | apply below_drew1 | refine below_set ?_ (IsS190.ge HI0.out)) | exact HB.out)); rintro e w6 ⟨rfl, hi, hb, hk⟩; refine ⟨_, rfl, ?_⟩; have n0_ := Aside0.mk (KeepBut.trans (by repeat (first | (with_reducible first | exact HK.out | apply KeepBut.set_ | apply keep_drewN | apply keep_drew | apply keep_alloc) | exact HK.out)) hk (.inl rfl)); have n1_ := Aside0.mk (hb); have n2_ := Aside0.mk (hi); clear HK; clear HB; clear HI0; have HK := n0_; have HB := n1_; have HI0 := n2_; clear n0_ n1_ n2_; (try clear hb); (try clear hb2); (try clear hk); (try clear hi)) | ((with_reducible refine gate_dst (N := 20) rfl ?_); refine Kd.R_lit k128 _ 128 ?hg (N := 20) ?hd (xs := ([(⟨(⟨#[43]⟩ : ByteArray), 2, false⟩ : S128), (⟨(⟨#[45]⟩ : ByteArray), 2, false⟩ : S128), (⟨(⟨#[42]⟩ : ByteArray), 4, false⟩ : S128), (⟨(⟨#[94]⟩ : ByteArray), 6, true⟩ : S128), (⟨(⟨#[61]⟩ : ByteArray), 1, true⟩ : S128), (⟨(⟨#[60]⟩ : ByteArray), wrap64 (1 + (wrap64 (2 * t133))), t136⟩ : S128)] : List (S128))) (inner := [.string (⟨#[43]⟩ : ByteArray), .int .i64 2, .bool false, .string (⟨#[45]⟩ : ByteArray), .int .i64 2, .bool false, .string (⟨#[42]⟩ : ByteArray), .int .i64 4, .bool false, .string (⟨#[94]⟩ : ByteArray), .int .i64 6, .bool true, .string (⟨#[61]⟩ : ByteArray), .int .i64 1, .bool true, .string (⟨#[60]⟩ : ByteArray), .int .i64 (wrap64 (1 + (wrap64 (2 * t133)))), .bool t136]) (ok := fun _ => True) (okp := fun _ => True) ?hr ?hp (fun _ hk => hk) trivial (Below.refl _ _) (Nat.le_refl _) (by simp) ?_; (case hd => rfl); (case hg => rfl); (case hr => first | (go_simp; done) | (go_simp; rfl)); (case hp => exact (Reps.c3 (show Kd.M k128 _ _ _ (⟨(⟨#[43]⟩ : ByteArray), 2, false⟩ : S128) [.string (⟨#[43]⟩ : ByteArray), .int .i64 2, .bool false] from (k128_mkM _ _ _ (⟨(⟨#[43]⟩ : ByteArray), 2, false⟩ : S128) )) (Reps.c3 (show Kd.M k128 _ _ _ (⟨(⟨#[45]⟩ : ByteArray), 2, false⟩ : S128) [.string (⟨#[45]⟩ : ByteArray), .int .i64 2, .bool false] from (k128_mkM _ _ _ (⟨(⟨#[45]⟩ : ByteArray), 2, false⟩ : S128) )) (Reps.c3 (show Kd.M k128 _ _ _ (⟨(⟨#[42]⟩ : ByteArray), 4, false⟩ : S128) [.string (⟨#[42]⟩ : ByteArray), .int .i64 4, .bool false] from (k128_mkM _ _ _ (⟨(⟨#[42]⟩ : ByteArray), 4, false⟩ : S128) )) (Reps.c3 (show Kd.M k128 _ _ _ (⟨(⟨#[94]⟩ : ByteArray), 6, true⟩ : S128) [.string (⟨#[94]⟩ : ByteArray), .int .i64 6, .bool true] from (k128_mkM _ _ _ (⟨(⟨#[94]⟩ : ByteArray), 6, true⟩ : S128) )) (Reps.c3 (show Kd.M k128 _ _ _ (⟨(⟨#[61]⟩ : ByteArray), 1, true⟩ : S128) [.string (⟨#[61]⟩ : ByteArray), .int .i64 1, .bool true] from (k128_mkM _ _ _ (⟨(⟨#[61]⟩ : ByteArray), 1, true⟩ : S128) )) (Reps.c3 (show Kd.M k128 _ _ _ (⟨(⟨#[60]⟩ : ByteArray), wrap64 (1 + (wrap64 (2 * t133))), t136⟩ : S128) [.string (⟨#[60]⟩ : ByteArray), .int .i64 (wrap64 (1 + (wrap64 (2 * t133)))), .bool t136] from (k128_mkM _ _ _ (⟨(⟨#[60]⟩ : ByteArray), wrap64 (1 + (wrap64 (2 * t133))), t136⟩ : S128) )) (Reps.none _ _)))))))); intro v140 w7 ho8 hb hg_ hnew_; clear hg_ hnew_; (first | rw [← Ny139.out] at ho8 | (simp only [Int.reduceToNat] at ho8; rw [← Ny139.out] at ho8)); have n0_ := Aside0.mk (Kd.R_lower ho8 (keep_size (w := w) (g := g) (row := none) (by repeat (first | (with_reducible first | exact HK.out | apply KeepBut.set_ | apply keep_drewN | apply keep_drew | apply keep_alloc) | exact HK.out)))); have n1_ := Aside0.mk (IsS190.below (by repeat (first | (with_reducible first | exact HI0.out | apply IsS190.alloc | apply IsS190.drewN | apply IsS190.drew | apply IsS190.set_1 | apply IsS190.set_2) | exact HI0.out)) hb); have n2_ := Aside0.mk (KeepBut.trans (by repeat (first | (with_reducible first | exact HK.out | apply KeepBut.set_ | apply keep_drewN | apply keep_drew | apply keep_alloc) | exact HK.out)) (KeepBut.of_below hb g none) (.inl rfl)); have n3_ := Aside0.mk (below_step (by repeat (first | (with_reducible first | exact HB.out | apply below_alloc | apply pw_below_drewN | apply below_drew1 | refine below_set ?_ (IsS190.ge HI0.out)) | exact HB.out)) hb); clear HI0; clear HK; clear HB; have HO141 := n0_; have HI0 := n1_; have HK := n2_; have HB := n3_; clear n0_ n1_ n2_ n3_; clear hb ho8) | ((with_reducible refine gate_dst (N := 21) rfl ?_); refine Kd.R_lit k128 _ 128 ?hg (N := 21) ?hd (xs := ([] : List (S128))) (inner := []) (ok := fun _ => True) (okp := fun _ => True) ?hr ?hp (fun _ hk => hk) trivial (Below.refl _ _) (Nat.le_refl _) (by simp) ?_; (case hd => rfl); (case hg => rfl); (case hr => first | (go_simp; done) | (go_simp; rfl)); (case hp => exact (Reps.none _ _)); intro v143 w9 ho10 hb hg_ hnew_; clear hg_ hnew_; (first | rw [← Ny142.out] at ho10 | (simp only [Int.reduceToNat] at ho10; rw [← Ny142.out] at ho10)); have n0_ := Aside0.mk (Kd.R_elder' (by (with_reducible repeat (first | apply Kd.R_alloc | apply Kd.R_drewN | apply Kd.R_drew)); exact HO141.out) (Kd.R_base ho10) hb); have n1_ := Aside0.mk (Kd.R_lower (Kd.R_new' ho10 (Kd.R_lt (by (with_reducible repeat (first | apply Kd.R_alloc | apply Kd.R_drewN | apply Kd.R_drew)); exact HO141.out))) (keep_size (w := w) (g := g) (row := none) (by repeat (first | (with_reducible first | exact HK.out | apply KeepBut.set_ | apply keep_drewN | apply keep_drew | apply keep_alloc) | exact HK.out)))); have n2_ := Aside0.mk (IsS190.below (by repeat (first | (with_reducible first | exact HI0.out | apply IsS190.alloc | apply IsS190.drewN | apply IsS190.drew | apply IsS190.set_1 | apply IsS190.set_2) | exact HI0.out)) hb); have n3_ := Aside0.mk (KeepBut.trans (by repeat (first | (with_reducible first | exact HK.out | apply KeepBut.set_ | apply keep_drewN | apply keep_drew | apply keep_alloc) | exact HK.out)) (KeepBut.of_below hb g none) (.inl rfl)); have n4_ := Aside0.mk (below_step (by repeat (first | (with_reducible first | exact HB.out | apply below_alloc | apply pw_below_drewN | apply below_drew1 | refine below_set ?_ (IsS190.ge HI0.out)) | exact HB.out)) hb); clear HO141; clear HI0; clear HK; clear HB; have HO141 := n0_; have HO144 := n1_; have HI0 := n2_; have HK := n3_; have HB := n4_; clear n0_ n1_ n2_ n3_ n4_; clear hb ho10) | ((with_reducible refine gate_callee (f := 132) rfl ?_); refine goesL_ (some 23) rfl rfl Try.func132 (by kernel_rfl) rfl #[.pointer (some ⟨g, 0, none⟩), .int .i64 6] rfl (by (try simp only [List.map_toArray, List.map_cons, List.map_nil]); first | done | rfl | (simp only [List.length_drop, List.length_take]; rfl)) ?_; (with_reducible refine (spec_l01Below.calls g s0_0 t137 t138 6 t145 t146 t147 w0 _ ?side1 ?side2 A4.out).mono ?_); (case side1 => repeat (first | (with_reducible first | exact HI0.out | apply IsS190.alloc | apply IsS190.drewN | apply IsS190.drew | apply IsS190.set_1 | apply IsS190.set_2) | exact HI0.out)); (case side2 => repeat (first | (with_reducible first | exact HB.out | apply below_alloc | apply pw_below_drewN | apply below_drew1 | refine below_set ?_ (IsS190.ge HI0.out)) | exact HB.out)); rintro e w11 ⟨rfl, hi, hb, hk⟩; refine ⟨_, rfl, ?_⟩; have n0_ := Aside0.mk (Kd.R_mono (Kd.R_keep (IsS190.apart (show IsS190 w0 _ g s0_0 t137 t138 from by repeat (first | (with_reducible first | exact HI0.out | apply IsS190.alloc | apply IsS190.drewN | apply IsS190.drew | apply IsS190.set_1 | apply IsS190.set_2) | exact HI0.out)) (by (with_reducible repeat (first | apply Kd.R_alloc | apply Kd.R_drewN | apply Kd.R_drew)); exact HO141.out) (by decide)) hk (fun _ h => h.2)) (fun _ h => h.1)); have n1_ := Aside0.mk (Kd.R_mono (Kd.R_keep (IsS190.apart (show IsS190 w0 _ g s0_0 t137 t138 from by repeat (first | (with_reducible first | exact HI0.out | apply IsS190.alloc | apply IsS190.drewN | apply IsS190.drew | apply IsS190.set_1 | apply IsS190.set_2) | exact HI0.out)) (by (with_reducible repeat (first | apply Kd.R_alloc | apply Kd.R_drewN | apply Kd.R_drew)); exact HO144.out) (by decide)) hk (fun _ h => h.2)) (fun _ h => h.1)); have n2_ := Aside0.mk (KeepBut.trans (by repeat (first | (with_reducible first | exact HK.out | apply KeepBut.set_ | apply keep_drewN | apply keep_drew | apply keep_alloc) | exact HK.out)) hk (.inl rfl)); have n3_ := Aside0.mk (hb); have n4_ := Aside0.mk (hi); clear HO141; clear HO144; clear HK; clear HB; clear HI0; have HO141 := n0_; have HO144 := n1_; have HK := n2_; have HB := n3_; have HI0 := n4_; clear n0_ n1_ n2_ n3_ n4_; (try clear hb); (try clear hb2); (try clear hk); (try clear hi)))
  go_loopg [4, 6] k (fun kq v4 v6 w' => ∃ (x4_1 : List (S128)) (x6_1 : Int) (x1001_1 : Int) (x1002_1 : Int), v6 = .int .i64 x6_1 ∧ Aside0 (spec_l13Ops.l0 kq y139 x4_1 t145 x6_1 s0_0 x1001_1 x1002_1 = some (r1, r2, r3)) ∧ Aside0 (kq ≤ k) ∧ Aside0 (Kd.R k128 128 w' w.heap.size (fun k_ => some k_ ≠ (v4 : Value).ownBlock) v140 y139) ∧ Aside0 (Kd.R k128 128 w' w.heap.size (fun k_ => some k_ ≠ (v140 : Value).ownBlock) v4 x4_1) ∧ Aside0 (IsS190 w0 w' g s0_0 x1001_1 x1002_1) ∧ Aside0 (KeepBut w w' g none) ∧ Aside0 (Below w0.heap.size w0 w'))
  case atStart => exact ⟨(y142), (0), (t146), (t147), (by first | rfl | (simp; done) | (simp [*]; done) | (simp [isE0, isE1]; done)), H', ⟨Nat.le_refl _⟩, ⟨by (with_reducible repeat (first | apply Kd.R_alloc | apply Kd.R_drewN | apply Kd.R_drew)); exact Kd.R_mono HO141.out (fun _ hk => hk.2)⟩, ⟨by (with_reducible repeat (first | apply Kd.R_alloc | apply Kd.R_drewN | apply Kd.R_drew)); exact Kd.R_mono HO144.out (fun _ hk => hk.2)⟩, ⟨by repeat (first | (with_reducible first | exact HI0.out | apply IsS190.alloc | apply IsS190.drewN | apply IsS190.drew | apply IsS190.set_1 | apply IsS190.set_2) | exact HI0.out)⟩, ⟨by repeat (first | (with_reducible first | exact HK.out | apply KeepBut.set_ | apply keep_drewN | apply keep_drew | apply keep_alloc) | exact HK.out)⟩, ⟨by repeat (first | (with_reducible first | exact HB.out | apply below_alloc | apply pw_below_drewN | apply below_drew1 | refine below_set ?_ (IsS190.ge HI0.out)) | exact HB.out)⟩⟩
  case round =>
    clear H'
    try clear c1
    try clear p2
    try clear c3
    try clear p6
    try clear c8
    obtain ⟨x4_1, x6_1, x1001_1, x1002_1, rfl, HA, HK1, HO_3, HO_4, HI0, HK, HB⟩ := hrel
    cases gk with
    | zero => exact absurd HA.out (by simp [spec_l13Ops.l0])
    | succ k1 =>
      have H := HA.out
      clear HA
      simp only [spec_l13Ops.l0] at H
      replace H := Option.bind_eq_some_iff.mp H
      obtain ⟨⟨t148, t149, t150⟩, A120, H⟩ := H
      replace H : (if x6_1 < (wrap64 (1 + t148)) then ((some (([] : List (S128)) : List (S128))).bind fun y151 => (if y151.length + x4_1.length < 4398046511104 then ((some (y151 ++ x4_1 : List (S128))).bind fun y154 => (if 0 ≤ (Int.tmod (wrap64 (t145 + x6_1)) 6) then (if (Int.tmod (wrap64 (t145 + x6_1)) 6) < (y139.length : Int) then ((some (([(⟨(rd_T128 y139 (Int.tmod (wrap64 (t145 + x6_1)) 6)).f0, (rd_T128 y139 (Int.tmod (wrap64 (t145 + x6_1)) 6)).f1, (rd_T128 y139 (Int.tmod (wrap64 (t145 + x6_1)) 6)).f2⟩ : S128)] : List (S128)) : List (S128))).bind fun y158 => (if y154.length + y158.length < 4398046511104 then ((some (y154 ++ y158 : List (S128))).bind fun y161 => ((spec_OpsOk.f k1 y161).bind fun t164 => (if t164 = true then (spec_l13Ops.l0 k1 y139 y161 t145 (wrap64 (x6_1 + 1)) s0_0 t149 t150) else (spec_l13Ops.l0 k1 y139 x4_1 t145 (wrap64 (x6_1 + 1)) s0_0 t149 t150)))) else (none))) else (none)) else (none))) else (none))) else (some (x4_1, t149, t150))) = some (r1, r2, r3) := H
      have A12 := Aside0.mk A120
      clear A120
      by_cases c13 : x6_1 < (wrap64 (1 + t148))
      · rw [if_pos c13] at H
        have c13b0 : decide (x6_1 < (wrap64 (1 + t148))) = true := decide_eq_true c13
        clear c13
        obtain ⟨y151, hy151⟩ : ∃ y_ : List (S128), y_ = (([] : List (S128))) := ⟨_, rfl⟩
        replace H : (if y151.length + x4_1.length < 4398046511104 then ((some (y151 ++ x4_1 : List (S128))).bind fun y154 => (if 0 ≤ (Int.tmod (wrap64 (t145 + x6_1)) 6) then (if (Int.tmod (wrap64 (t145 + x6_1)) 6) < (y139.length : Int) then ((some (([(⟨(rd_T128 y139 (Int.tmod (wrap64 (t145 + x6_1)) 6)).f0, (rd_T128 y139 (Int.tmod (wrap64 (t145 + x6_1)) 6)).f1, (rd_T128 y139 (Int.tmod (wrap64 (t145 + x6_1)) 6)).f2⟩ : S128)] : List (S128)) : List (S128))).bind fun y158 => (if y154.length + y158.length < 4398046511104 then ((some (y154 ++ y158 : List (S128))).bind fun y161 => ((spec_OpsOk.f k1 y161).bind fun t164 => (if t164 = true then (spec_l13Ops.l0 k1 y139 y161 t145 (wrap64 (x6_1 + 1)) s0_0 t149 t150) else (spec_l13Ops.l0 k1 y139 x4_1 t145 (wrap64 (x6_1 + 1)) s0_0 t149 t150)))) else (none))) else (none)) else (none))) else (none)) = some (r1, r2, r3) := by first | (rw [hy151]; with_reducible exact H) | (have H2_ := (Option.bind_some _ _).symm.trans H; rw [hy151]; with_reducible exact H2_) | (have H2_ := (Option.bind_some _ _).symm.trans H; with_reducible exact H2_) | with_reducible exact H | (rw [hy151]; exact H) | exact H
        have Ny151 := Aside0.mk hy151
        clear hy151
        by_cases c14 : y151.length + x4_1.length < 4398046511104
        · rw [if_pos c14] at H
          have LMc14 := Aside0.mk c14
          clear c14
          obtain ⟨y154, hy154⟩ : ∃ y_ : List (S128), y_ = (y151 ++ x4_1) := ⟨_, rfl⟩
          replace H : (if 0 ≤ (Int.tmod (wrap64 (t145 + x6_1)) 6) then (if (Int.tmod (wrap64 (t145 + x6_1)) 6) < (y139.length : Int) then ((some (([(⟨(rd_T128 y139 (Int.tmod (wrap64 (t145 + x6_1)) 6)).f0, (rd_T128 y139 (Int.tmod (wrap64 (t145 + x6_1)) 6)).f1, (rd_T128 y139 (Int.tmod (wrap64 (t145 + x6_1)) 6)).f2⟩ : S128)] : List (S128)) : List (S128))).bind fun y158 => (if y154.length + y158.length < 4398046511104 then ((some (y154 ++ y158 : List (S128))).bind fun y161 => ((spec_OpsOk.f k1 y161).bind fun t164 => (if t164 = true then (spec_l13Ops.l0 k1 y139 y161 t145 (wrap64 (x6_1 + 1)) s0_0 t149 t150) else (spec_l13Ops.l0 k1 y139 x4_1 t145 (wrap64 (x6_1 + 1)) s0_0 t149 t150)))) else (none))) else (none)) else (none)) = some (r1, r2, r3) := by first | (rw [hy154]; with_reducible exact H) | (have H2_ := (Option.bind_some _ _).symm.trans H; rw [hy154]; with_reducible exact H2_) | (have H2_ := (Option.bind_some _ _).symm.trans H; with_reducible exact H2_) | with_reducible exact H | (rw [hy154]; exact H) | exact H
          have Ny154 := Aside0.mk hy154
          clear hy154
          obtain ⟨ji15, hji15⟩ : ∃ j_ : Int, (Int.tmod (wrap64 (t145 + x6_1)) 6) = j_ := ⟨_, rfl⟩
          replace H : (if 0 ≤ (ji15) then (if (ji15) < (y139.length : Int) then ((some (([(⟨(rd_T128 y139 (ji15)).f0, (rd_T128 y139 (ji15)).f1, (rd_T128 y139 (ji15)).f2⟩ : S128)] : List (S128)) : List (S128))).bind fun y158 => (if y154.length + y158.length < 4398046511104 then ((some (y154 ++ y158 : List (S128))).bind fun y161 => ((spec_OpsOk.f k1 y161).bind fun t164 => (if t164 = true then (spec_l13Ops.l0 k1 y139 y161 t145 (wrap64 (x6_1 + 1)) s0_0 t149 t150) else (spec_l13Ops.l0 k1 y139 x4_1 t145 (wrap64 (x6_1 + 1)) s0_0 t149 t150)))) else (none))) else (none)) else (none)) = some (r1, r2, r3) := by first | (rw [hji15] at H; exact H) | (simp only [hji15] at H ⊢; exact H)
          (try rw [hji15] at A12)
          by_cases c16 : 0 ≤ (ji15)
          · rw [if_pos c16] at H
            have c16b0 : decide (0 ≤ (ji15)) = true := decide_eq_true c16
            clear c16
            by_cases c17 : (ji15) < (y139.length : Int)
            · rw [if_pos c17] at H
              have c17b0 : decide ((ji15) < (y139.length : Int)) = true := decide_eq_true c17
              clear c17
              obtain ⟨y158, hy158⟩ : ∃ y_ : List (S128), y_ = (([(⟨(rd_T128 y139 (ji15)).f0, (rd_T128 y139 (ji15)).f1, (rd_T128 y139 (ji15)).f2⟩ : S128)] : List (S128))) := ⟨_, rfl⟩
              replace H : (if y154.length + y158.length < 4398046511104 then ((some (y154 ++ y158 : List (S128))).bind fun y161 => ((spec_OpsOk.f k1 y161).bind fun t164 => (if t164 = true then (spec_l13Ops.l0 k1 y139 y161 t145 (wrap64 (x6_1 + 1)) s0_0 t149 t150) else (spec_l13Ops.l0 k1 y139 x4_1 t145 (wrap64 (x6_1 + 1)) s0_0 t149 t150)))) else (none)) = some (r1, r2, r3) := by first | (rw [hy158]; with_reducible exact H) | (have H2_ := (Option.bind_some _ _).symm.trans H; rw [hy158]; with_reducible exact H2_) | (have H2_ := (Option.bind_some _ _).symm.trans H; with_reducible exact H2_) | with_reducible exact H | (rw [hy158]; exact H) | exact H
              have Ny158 := Aside0.mk hy158
              clear hy158
              by_cases c18 : y154.length + y158.length < 4398046511104
              · rw [if_pos c18] at H
                have LMc18 := Aside0.mk c18
                clear c18
                obtain ⟨y161, hy161⟩ : ∃ y_ : List (S128), y_ = (y154 ++ y158) := ⟨_, rfl⟩
                replace H : ((spec_OpsOk.f k1 y161).bind fun t164 => (if t164 = true then (spec_l13Ops.l0 k1 y139 y161 t145 (wrap64 (x6_1 + 1)) s0_0 t149 t150) else (spec_l13Ops.l0 k1 y139 x4_1 t145 (wrap64 (x6_1 + 1)) s0_0 t149 t150))) = some (r1, r2, r3) := by first | (rw [hy161]; with_reducible exact H) | (have H2_ := (Option.bind_some _ _).symm.trans H; rw [hy161]; with_reducible exact H2_) | (have H2_ := (Option.bind_some _ _).symm.trans H; with_reducible exact H2_) | with_reducible exact H | (rw [hy161]; exact H) | exact H
                have Ny161 := Aside0.mk hy161
                clear hy161
                replace H := Option.bind_eq_some_iff.mp H
                obtain ⟨t164, A190, H⟩ := H
                replace H : (if t164 = true then (spec_l13Ops.l0 k1 y139 y161 t145 (wrap64 (x6_1 + 1)) s0_0 t149 t150) else (spec_l13Ops.l0 k1 y139 x4_1 t145 (wrap64 (x6_1 + 1)) s0_0 t149 t150)) = some (r1, r2, r3) := H
                have A19 := Aside0.mk A190
                clear A190
                by_cases c20 : t164 = true
                · subst c20
                  have H1 : (spec_l13Ops.l0 k1 y139 y161 t145 (wrap64 (x6_1 + 1)) s0_0 t149 t150) = some (r1, r2, r3) := by rw [if_pos rfl] at H; exact H
                  clear H
                  have H := H1
                  clear H1
                  have H' := Aside0.mk H
                  clear H
                  try go_wp2_with (first | ((with_reducible refine gate_callee (f := 132) rfl ?_); refine goesL_ (some 26) rfl rfl Try.func132 (by kernel_rfl) rfl #[.pointer (some ⟨g, 0, none⟩), .int .i64 4] rfl (by (try simp only [List.map_toArray, List.map_cons, List.map_nil]); first | done | rfl | (simp only [List.length_drop, List.length_take]; rfl)) ?_; (with_reducible refine (spec_l01Below.calls g s0_0 x1001_1 x1002_1 4 t148 t149 t150 w0 _ ?side1 ?side2 A12.out).mono ?_); (case side1 => repeat (first | (with_reducible first | exact HI0.out | apply IsS190.alloc | apply IsS190.drewN | apply IsS190.drew | apply IsS190.set_1 | apply IsS190.set_2) | exact HI0.out)); (case side2 => repeat (first | (with_reducible first | exact HB.out | apply below_alloc | apply pw_below_drewN | apply below_drew1 | refine below_set ?_ (IsS190.ge HI0.out)) | exact HB.out)); rintro e w21 ⟨rfl, hi, hb, hk⟩; refine ⟨_, rfl, ?_⟩; have n0_ := Aside0.mk (Kd.R_mono (Kd.R_keep (IsS190.apart (show IsS190 w0 _ g s0_0 x1001_1 x1002_1 from by repeat (first | (with_reducible first | exact HI0.out | apply IsS190.alloc | apply IsS190.drewN | apply IsS190.drew | apply IsS190.set_1 | apply IsS190.set_2) | exact HI0.out)) (by (with_reducible repeat (first | apply Kd.R_alloc | apply Kd.R_drewN | apply Kd.R_drew)); exact HO_3.out) (by decide)) hk (fun _ h => h.2)) (fun _ h => h.1)); have n1_ := Aside0.mk (Kd.R_mono (Kd.R_keep (IsS190.apart (show IsS190 w0 _ g s0_0 x1001_1 x1002_1 from by repeat (first | (with_reducible first | exact HI0.out | apply IsS190.alloc | apply IsS190.drewN | apply IsS190.drew | apply IsS190.set_1 | apply IsS190.set_2) | exact HI0.out)) (by (with_reducible repeat (first | apply Kd.R_alloc | apply Kd.R_drewN | apply Kd.R_drew)); exact HO_4.out) (by decide)) hk (fun _ h => h.2)) (fun _ h => h.1)); have n2_ := Aside0.mk (KeepBut.trans (by repeat (first | (with_reducible first | exact HK.out | apply KeepBut.set_ | apply keep_drewN | apply keep_drew | apply keep_alloc) | exact HK.out)) hk (.inl rfl)); have n3_ := Aside0.mk (hb); have n4_ := Aside0.mk (hi); clear HO_3; clear HO_4; clear HK; clear HB; clear HI0; have HO_3 := n0_; have HO_4 := n1_; have HK := n2_; have HB := n3_; have HI0 := n4_; clear n0_ n1_ n2_ n3_ n4_; (try clear hb); (try clear hb2); (try clear hk); (try clear hi); obtain ⟨Ao22, co22, eo22⟩ := Kd.R_slice HO_4.out; subst eo22))
                  have n0_ := Aside0.mk (Kd.R_drew HO_3.out)
                  have n1_ := Aside0.mk (Kd.R_drew HO_4.out)
                  have n2_ := Aside0.mk (IsS190.drew HI0.out)
                  have n3_ := Aside0.mk (keep_drew HK.out)
                  have n4_ := Aside0.mk (below_drew1 HB.out)
                  clear HO_3
                  clear HO_4
                  clear HI0
                  clear HK
                  clear HB
                  have HO_3 := n0_
                  have HO_4 := n1_
                  have HI0 := n2_
                  have HK := n3_
                  have HB := n4_
                  clear n0_ n1_ n2_ n3_ n4_
                  obtain ⟨Ao24, co24, eo24⟩ := Kd.R_slice HO_3.out
                  (first | subst eo24 | (injection eo24 with f1_ f2_ f3_; have f4_ := f1_.symm; have f5_ := f3_.symm; clear f1_ f2_ f3_; subst f4_; subst f5_))
                  have p157 : 0 ≤ ((ji15) : Int) := oa
                  have q157 : (ji15) < (y139.length : Int) := oa
                  obtain ⟨ad157, e157, hx157_0, hx157_1, hx157_2⟩ := at_T128 (Kd.R_reads' HO_3.out).2.2 (ji15) p157 q157
                  cases e157
                  replace p157 := eq_true p157
                  replace q157 := eq_true q157
                  refine start_ (n := 13) (S := fun w' => w'.cell? (ad157.add (((ji15)).toNat * 3)) = some (.string ((rd_T128 y139 (ji15)).f0)) ∧ w'.cell? ⟨(ad157.add (((ji15)).toNat * 3)).block, (ad157.add (((ji15)).toNat * 3)).off + 1, none⟩ = some (.int .i64 ((rd_T128 y139 (ji15)).f1)) ∧ w'.cell? ⟨(ad157.add (((ji15)).toNat * 3)).block, (ad157.add (((ji15)).toNat * 3)).off + 2, none⟩ = some (.bool ((rd_T128 y139 (ji15)).f2))) (ds := []) #[false, false, false, false, false, false, false, false, false, false, false, false, false] (by kernel_rfl) rfl rfl ⟨hx157_0, hx157_1, hx157_2⟩ (fun hHeld => ?_); refine with_tabW spec_l13Ops.tab7 spec_l13Ops.bits7 (fun HT_ HW_ => ?_)
                  generalize w21.drew = w23 at HO_3 HO_4 HI0 HK HB hx157_0 hx157_1 hx157_2 hHeld ⊢
                  refine pure_ (i := 1) (N := some 32) (v := ?_) (a' := ?_) (bmk 13 2) rfl rfl (any_of HT_.out (by kernel_rfl)) (fun _ _ _ h => h) (Or.inl ⟨by rfl, ?_⟩) ?_ ?_
                  rotate_left
                  · intro w'
                    go_simp
                    with_reducible rfl
                  rotate_left
                  · simp only [Act.put, List.setIfInBounds_toArray, List.set_cons_zero, List.set_cons_succ, i64_w, i32_w]
                    rfl
                  refine pure_ (i := 3) (N := some 34) (v := ?_) (a' := ?_) (bmk 13 10) rfl rfl (any_of HT_.out (by kernel_rfl)) (fun _ _ _ h => h) (Or.inl ⟨by rfl, ?_⟩) ?_ ?_
                  rotate_left
                  · intro w'
                    go_simp
                    with_reducible rfl
                  rotate_left
                  · simp only [Act.put, List.setIfInBounds_toArray, List.set_cons_zero, List.set_cons_succ, i64_w, i32_w]
                    rfl
                  refine pure_ (i := 4) (N := some 35) (v := ?_) (a' := ?_) (bmk 13 26) rfl rfl (any_of HT_.out (by kernel_rfl)) (fun _ _ _ h => h) (Or.inl ⟨by rfl, ?_⟩) ?_ ?_
                  rotate_left
                  · intro w'
                    go_simp
                    with_reducible rfl
                  rotate_left
                  · simp only [Act.put, List.setIfInBounds_toArray, List.set_cons_zero, List.set_cons_succ, i64_w, i32_w]
                    rfl
                  refine pure_ (i := 5) (N := some 36) (v := ?_) (a' := ?_) (bmk 13 58) rfl rfl (any_of HT_.out (by kernel_rfl)) (fun _ _ _ h => h) (Or.inl ⟨by rfl, ?_⟩) ?_ ?_
                  rotate_left
                  · intro w'
                    go_simp
                    with_reducible rfl
                  rotate_left
                  · simp only [Act.put, List.setIfInBounds_toArray, List.set_cons_zero, List.set_cons_succ, i64_w, i32_w]
                    rfl
                  refine pure_ (i := 6) (N := some 37) (v := ?_) (a' := ?_) (bmk 13 122) rfl rfl (any_of HT_.out (by kernel_rfl)) (fun _ _ _ h => h) (Or.inl ⟨by rfl, ?_⟩) ?_ ?_
                  rotate_left
                  · intro w'
                    go_simp
                    with_reducible rfl
                  rotate_left
                  · simp only [Act.put, List.setIfInBounds_toArray, List.set_cons_zero, List.set_cons_succ, i64_w, i32_w]
                    rfl
                  refine pure_ (i := 7) (N := some 38) (v := ?_) (a' := ?_) (bmk 13 250) rfl rfl (any_of HT_.out (by kernel_rfl)) (fun _ _ _ h => h) (Or.inl ⟨by rfl, ?_⟩) ?_ ?_
                  rotate_left
                  · intro w'
                    go_simp
                    with_reducible rfl
                  rotate_left
                  · simp only [Act.put, List.setIfInBounds_toArray, List.set_cons_zero, List.set_cons_succ, i64_w, i32_w]
                    rfl
                  refine pure_ (i := 8) (N := some 39) (v := ?_) (a' := ?_) (bmk 13 506) rfl rfl (any_of HT_.out (by kernel_rfl)) (fun _ _ _ h => h) (Or.inl ⟨by rfl, ?_⟩) ?_ ?_
                  rotate_left
                  · intro w'
                    go_simp
                    with_reducible rfl
                  rotate_left
                  · simp only [Act.put, List.setIfInBounds_toArray, List.set_cons_zero, List.set_cons_succ, i64_w, i32_w]
                    rfl
                  refine take_ (i := 9) (N := some 40) (v := ?_) (a' := ?_) (bmk 13 1018) rfl rfl (take_ofW HT_.out HW_.out (by kernel_rfl)) (fun _ _ _ h => h) (Or.inl ⟨by rfl, ?_⟩) hHeld ?_ ?_
                  rotate_left
                  · rintro w' ⟨s0, s1, s2⟩
                    go_simp
                    with_reducible rfl
                  rotate_left
                  · simp only [Act.put, List.setIfInBounds_toArray, List.set_cons_zero, List.set_cons_succ, i64_w, i32_w]
                    rfl
                  refine join_ (σ := Value × Value × Value) 2 #[true, true, true, true, true, true, true, true, true, true, true, false, false] (fun s_ => [(31, s_.1), (33, s_.2.1), (41, s_.2.2)]) (fun s_ w' => (w'.cell? (ad157.add (((ji15)).toNat * 3)) = some (.string ((rd_T128 y139 (ji15)).f0)) ∧ w'.cell? ⟨(ad157.add (((ji15)).toNat * 3)).block, (ad157.add (((ji15)).toNat * 3)).off + 1, none⟩ = some (.int .i64 ((rd_T128 y139 (ji15)).f1)) ∧ w'.cell? ⟨(ad157.add (((ji15)).toNat * 3)).block, (ad157.add (((ji15)).toNat * 3)).off + 2, none⟩ = some (.bool ((rd_T128 y139 (ji15)).f2))) ∧ (Kd.R k128 128 w' w.heap.size (fun k_ => some k_ ≠ (s_.2.2 : Value).ownBlock ∧ some k_ ≠ (.slice (some ad157) y139.length co24 : Value).ownBlock ∧ some k_ ≠ (.slice Ao22 x4_1.length co22 : Value).ownBlock) s_.2.1 y154) ∧ (Kd.R k128 128 w' w.heap.size (fun k_ => some k_ ≠ (s_.2.1 : Value).ownBlock ∧ some k_ ≠ (.slice (some ad157) y139.length co24 : Value).ownBlock ∧ some k_ ≠ (.slice Ao22 x4_1.length co22 : Value).ownBlock) s_.2.2 y158) ∧ (Kd.R k128 128 w' w.heap.size (fun k_ => some k_ ≠ (s_.2.1 : Value).ownBlock ∧ some k_ ≠ (s_.2.2 : Value).ownBlock ∧ some k_ ≠ (.slice Ao22 x4_1.length co22 : Value).ownBlock) (.slice (some ad157) y139.length co24) y139) ∧ (Kd.R k128 128 w' w.heap.size (fun k_ => some k_ ≠ (s_.2.1 : Value).ownBlock ∧ some k_ ≠ (s_.2.2 : Value).ownBlock ∧ some k_ ≠ (.slice (some ad157) y139.length co24 : Value).ownBlock) (.slice Ao22 x4_1.length co22) x4_1) ∧ (IsS190 w0 w' g s0_0 t149 t150) ∧ (KeepBut w w' g none) ∧ (Below w0.heap.size w0 w')) ?_ ?_
                  rotate_left
                  · intro hCont
                    refine two_ (i := 0) (j := 10) (Ni := some 31) (Nj := some 41) #[true, true, false, true, true, true, true, true, true, true, false, false, false] #[false, true, false, true, true, true, true, true, true, true, true, false, false] rfl rfl rfl rfl (two_of HT_.out (by kernel_rfl)) (by decide) (by decide) (fun K hK => ?_) (fun K hK => ?_)
                    · skip
                      refine Kd.R_lit_step k128 _ 128 ?hg (N := 31) ?hd (xs := ([] : List (S128))) (inner := []) (ok := fun _ => True) (okp := fun _ => True) ?hr ?hp (fun _ hk => hk) trivial (Below.refl _ _) (Nat.le_refl _) (by simp) ?_; (case hd => rfl); (case hg => rfl); (case hr => first | (go_simp; done) | (go_simp; rfl)); (case hp => exact (Reps.none _ _))
                      intro v152 w25 ho26 hb hg_ hnew_
                      have HS0_ := (hb.cell (World.block_lt_of_cell? _ _ (hHeld.1))).trans (hHeld.1)
                      have HS1_ := (hb.cell (World.block_lt_of_cell? _ _ (hHeld.2.1))).trans (hHeld.2.1)
                      have HS2_ := (hb.cell (World.block_lt_of_cell? _ _ (hHeld.2.2))).trans (hHeld.2.2)
                      clear hg_ hnew_
                      (first | rw [← Ny151.out] at ho26 | (simp only [Int.reduceToNat] at ho26; rw [← Ny151.out] at ho26))
                      have n0_ := Aside0.mk (Kd.R_elder' (by (with_reducible repeat (first | apply Kd.R_alloc | apply Kd.R_drewN | apply Kd.R_drew)); exact HO_3.out) (Kd.R_base ho26) hb)
                      have n1_ := Aside0.mk (Kd.R_elder' (by (with_reducible repeat (first | apply Kd.R_alloc | apply Kd.R_drewN | apply Kd.R_drew)); exact HO_4.out) (Kd.R_base ho26) hb)
                      have n2_ := Aside0.mk (Kd.R_lower (Kd.R_new' (Kd.R_new' ho26 (Kd.R_lt (by (with_reducible repeat (first | apply Kd.R_alloc | apply Kd.R_drewN | apply Kd.R_drew)); exact HO_3.out))) (Kd.R_lt (by (with_reducible repeat (first | apply Kd.R_alloc | apply Kd.R_drewN | apply Kd.R_drew)); exact HO_4.out))) (keep_size (w := w) (g := g) (row := none) (by repeat (first | (with_reducible first | exact HK.out | apply KeepBut.set_ | apply keep_drewN | apply keep_drew | apply keep_alloc) | exact HK.out))))
                      have n3_ := Aside0.mk (IsS190.below (by repeat (first | (with_reducible first | exact HI0.out | apply IsS190.alloc | apply IsS190.drewN | apply IsS190.drew | apply IsS190.set_1 | apply IsS190.set_2) | exact HI0.out)) hb)
                      have n4_ := Aside0.mk (KeepBut.trans (by repeat (first | (with_reducible first | exact HK.out | apply KeepBut.set_ | apply keep_drewN | apply keep_drew | apply keep_alloc) | exact HK.out)) (KeepBut.of_below hb g none) (.inl rfl))
                      have n5_ := Aside0.mk (below_step (by repeat (first | (with_reducible first | exact HB.out | apply below_alloc | apply pw_below_drewN | apply below_drew1 | refine below_set ?_ (IsS190.ge HI0.out)) | exact HB.out)) hb)
                      clear HO_3
                      clear HO_4
                      clear HI0
                      clear HK
                      clear HB
                      have HO_3 := n0_
                      have HO_4 := n1_
                      have HO153 := n2_
                      have HI0 := n3_
                      have HK := n4_
                      have HB := n5_
                      clear n0_ n1_ n2_ n3_ n4_ n5_
                      clear hb ho26
                      refine hK.out _ _ ⟨HS0_, HS1_, HS2_⟩ (fun hHeld => ?_)
                      clear hK K
                      refine norm_ (a' := ?_) ?_ ?_
                      rotate_left
                      · show Act.put _ (some 31) _ = _
                        simp only [Act.put, List.setIfInBounds_toArray, List.set_cons_zero, List.set_cons_succ, i64_w, i32_w]
                        rfl
                      refine two_ (i := 2) (j := 10) (Ni := some 33) (Nj := some 41) #[true, true, true, true, true, true, true, true, true, true, false, false, false] #[true, true, false, true, true, true, true, true, true, true, true, false, false] rfl rfl rfl rfl (two_of HT_.out (by kernel_rfl)) (by decide) (by decide) (fun K hK => ?_) (fun K hK => ?_)
                      · skip
                        refine Kd.R_append_rows_step k128 w.heap.size (by rfl) (.tmp 31) (.tmp 32) 52 128 (.agg #[(.string ⟨#[]⟩), (.int .i64 0), (.bool false)]) 32 rfl Try.underlying52 info128 rfl (by decide) (by omega) v152 y151 x4_1 _ _ _ (fun k_ => some k_ ≠ (.slice (some ad157) y139.length co24 : Value).ownBlock ∧ some k_ ≠ (.slice Ao22 x4_1.length co22 : Value).ownBlock) (fun _ => False) rfl rfl ?aO ?aR (fun _ _ h => h) (fun _ h => h.elim) ?aF (Below.refl _ _) ?aS ?aL ?_
                        (case aR => repeat (first | exact (Kd.R_reads' HO_4.out).2.2 | (with_reducible refine Kd.C_alloc ?_ _) | (with_reducible refine Kd.C_drewN ?_ _) | (with_reducible refine Kd.C_drew ?_)))
                        (case aF => exact (fun k_ hk => ⟨Kd.fresh' (Kd.R_lt (by (with_reducible repeat (first | apply Kd.R_alloc | apply Kd.R_drewN | apply Kd.R_drew)); exact HO_3.out)) k_ hk, Kd.fresh' (Kd.R_lt (by (with_reducible repeat (first | apply Kd.R_alloc | apply Kd.R_drewN | apply Kd.R_drew)); exact HO_4.out)) k_ hk⟩))
                        (case aO => exact (by (with_reducible repeat (first | apply Kd.R_alloc | apply Kd.R_drewN | apply Kd.R_drew)); exact Kd.R_mono HO153.out (fun _ hk => ⟨hk.1.2, hk.2⟩)))
                        (case aS => exact (keep_size (w := w) (g := g) (row := none) (by repeat (first | (with_reducible first | exact HK.out | apply KeepBut.set_ | apply keep_drewN | apply keep_drew | apply keep_alloc) | exact HK.out))))
                        (case aL => have := LMc14.out; omega)
                        intro v155 w27 ho hb hg hat
                        have HS0_ := cell_grown hg (hHeld.1) (by first | (rw [add_block]; exact (fun e_ => by have h_ := HO153.out.1 _ e_.symm; first | exact h_ rfl | exact h_.1 rfl | exact h_.2 rfl | exact h_.1.1 rfl | exact h_.1.2 rfl | exact h_.2.1 rfl | exact h_.2.2 rfl | exact h_.1.1.1 rfl | exact h_.1.1.2 rfl | exact h_.1.2.1 rfl | exact h_.1.2.2 rfl | exact h_.2.1.1 rfl | exact h_.2.1.2 rfl | exact h_.2.2.1 rfl | exact h_.2.2.2 rfl | exact h_.1.1.1.2 rfl | exact h_.1.1.1.1 rfl)) | (show some (Addr.add _ _).block ≠ _; rw [add_block]; exact (fun e_ => by have h_ := HO153.out.1 _ e_.symm; first | exact h_ rfl | exact h_.1 rfl | exact h_.2 rfl | exact h_.1.1 rfl | exact h_.1.2 rfl | exact h_.2.1 rfl | exact h_.2.2 rfl | exact h_.1.1.1 rfl | exact h_.1.1.2 rfl | exact h_.1.2.1 rfl | exact h_.1.2.2 rfl | exact h_.2.1.1 rfl | exact h_.2.1.2 rfl | exact h_.2.2.1 rfl | exact h_.2.2.2 rfl | exact h_.1.1.1.2 rfl | exact h_.1.1.1.1 rfl)) | exact (fun e_ => by have h_ := HO153.out.1 _ e_.symm; first | exact h_ rfl | exact h_.1 rfl | exact h_.2 rfl | exact h_.1.1 rfl | exact h_.1.2 rfl | exact h_.2.1 rfl | exact h_.2.2 rfl | exact h_.1.1.1 rfl | exact h_.1.1.2 rfl | exact h_.1.2.1 rfl | exact h_.1.2.2 rfl | exact h_.2.1.1 rfl | exact h_.2.1.2 rfl | exact h_.2.2.1 rfl | exact h_.2.2.2 rfl | exact h_.1.1.1.2 rfl | exact h_.1.1.1.1 rfl))
                        have HS1_ := cell_grown hg (hHeld.2.1) (by first | (rw [add_block]; exact (fun e_ => by have h_ := HO153.out.1 _ e_.symm; first | exact h_ rfl | exact h_.1 rfl | exact h_.2 rfl | exact h_.1.1 rfl | exact h_.1.2 rfl | exact h_.2.1 rfl | exact h_.2.2 rfl | exact h_.1.1.1 rfl | exact h_.1.1.2 rfl | exact h_.1.2.1 rfl | exact h_.1.2.2 rfl | exact h_.2.1.1 rfl | exact h_.2.1.2 rfl | exact h_.2.2.1 rfl | exact h_.2.2.2 rfl | exact h_.1.1.1.2 rfl | exact h_.1.1.1.1 rfl)) | (show some (Addr.add _ _).block ≠ _; rw [add_block]; exact (fun e_ => by have h_ := HO153.out.1 _ e_.symm; first | exact h_ rfl | exact h_.1 rfl | exact h_.2 rfl | exact h_.1.1 rfl | exact h_.1.2 rfl | exact h_.2.1 rfl | exact h_.2.2 rfl | exact h_.1.1.1 rfl | exact h_.1.1.2 rfl | exact h_.1.2.1 rfl | exact h_.1.2.2 rfl | exact h_.2.1.1 rfl | exact h_.2.1.2 rfl | exact h_.2.2.1 rfl | exact h_.2.2.2 rfl | exact h_.1.1.1.2 rfl | exact h_.1.1.1.1 rfl)) | exact (fun e_ => by have h_ := HO153.out.1 _ e_.symm; first | exact h_ rfl | exact h_.1 rfl | exact h_.2 rfl | exact h_.1.1 rfl | exact h_.1.2 rfl | exact h_.2.1 rfl | exact h_.2.2 rfl | exact h_.1.1.1 rfl | exact h_.1.1.2 rfl | exact h_.1.2.1 rfl | exact h_.1.2.2 rfl | exact h_.2.1.1 rfl | exact h_.2.1.2 rfl | exact h_.2.2.1 rfl | exact h_.2.2.2 rfl | exact h_.1.1.1.2 rfl | exact h_.1.1.1.1 rfl))
                        have HS2_ := cell_grown hg (hHeld.2.2) (by first | (rw [add_block]; exact (fun e_ => by have h_ := HO153.out.1 _ e_.symm; first | exact h_ rfl | exact h_.1 rfl | exact h_.2 rfl | exact h_.1.1 rfl | exact h_.1.2 rfl | exact h_.2.1 rfl | exact h_.2.2 rfl | exact h_.1.1.1 rfl | exact h_.1.1.2 rfl | exact h_.1.2.1 rfl | exact h_.1.2.2 rfl | exact h_.2.1.1 rfl | exact h_.2.1.2 rfl | exact h_.2.2.1 rfl | exact h_.2.2.2 rfl | exact h_.1.1.1.2 rfl | exact h_.1.1.1.1 rfl)) | (show some (Addr.add _ _).block ≠ _; rw [add_block]; exact (fun e_ => by have h_ := HO153.out.1 _ e_.symm; first | exact h_ rfl | exact h_.1 rfl | exact h_.2 rfl | exact h_.1.1 rfl | exact h_.1.2 rfl | exact h_.2.1 rfl | exact h_.2.2 rfl | exact h_.1.1.1 rfl | exact h_.1.1.2 rfl | exact h_.1.2.1 rfl | exact h_.1.2.2 rfl | exact h_.2.1.1 rfl | exact h_.2.1.2 rfl | exact h_.2.2.1 rfl | exact h_.2.2.2 rfl | exact h_.1.1.1.2 rfl | exact h_.1.1.1.1 rfl)) | exact (fun e_ => by have h_ := HO153.out.1 _ e_.symm; first | exact h_ rfl | exact h_.1 rfl | exact h_.2 rfl | exact h_.1.1 rfl | exact h_.1.2 rfl | exact h_.2.1 rfl | exact h_.2.2 rfl | exact h_.1.1.1 rfl | exact h_.1.1.2 rfl | exact h_.1.2.1 rfl | exact h_.1.2.2 rfl | exact h_.2.1.1 rfl | exact h_.2.1.2 rfl | exact h_.2.2.1 rfl | exact h_.2.2.2 rfl | exact h_.1.1.1.2 rfl | exact h_.1.1.1.1 rfl))
                        rw [← Ny154.out] at ho
                        have n0_ := Aside0.mk (Kd.R_after (ok := (fun k_ => some k_ ≠ (.slice Ao22 x4_1.length co22 : Value).ownBlock)) (by (with_reducible repeat (first | apply Kd.R_alloc | apply Kd.R_drewN | apply Kd.R_drew)); exact HO_3.out) hg hat)
                        have n1_ := Aside0.mk (Kd.R_after (ok := (fun k_ => some k_ ≠ (.slice (some ad157) y139.length co24 : Value).ownBlock)) (by (with_reducible repeat (first | apply Kd.R_alloc | apply Kd.R_drewN | apply Kd.R_drew)); exact HO_4.out) hg hat)
                        have n2_ := Aside0.mk (IsS190.grown (by repeat (first | (with_reducible first | exact HI0.out | apply IsS190.alloc | apply IsS190.drewN | apply IsS190.drew | apply IsS190.set_1 | apply IsS190.set_2) | exact HI0.out)) hg (IsS190.own_ne HI0.out HO153.out (by decide)))
                        have n3_ := Aside0.mk (below_weaken (by repeat (first | (with_reducible first | exact HB.out | apply below_alloc | apply pw_below_drewN | apply below_drew1 | refine below_set ?_ (IsS190.ge HI0.out)) | exact HB.out)) HL.out hb)
                        have n4_ := Aside0.mk (KeepBut.trans (by repeat (first | (with_reducible first | exact HK.out | apply KeepBut.set_ | apply keep_drewN | apply keep_drew | apply keep_alloc) | exact HK.out)) (KeepBut.of_grown hg g) (Kd.R_base2 HO153.out))
                        have n5_ := Aside0.mk (ho)
                        clear HO_3
                        clear HO_4
                        clear HI0
                        clear HB
                        clear HK
                        clear HO153
                        have HO_3 := n0_
                        have HO_4 := n1_
                        have HI0 := n2_
                        have HB := n3_
                        have HK := n4_
                        have HO156 := n5_
                        clear n0_ n1_ n2_ n3_ n4_ n5_
                        clear ho hb hg hat
                        refine hK.out _ _ ⟨HS0_, HS1_, HS2_⟩ (fun hHeld => ?_)
                        clear hK K
                        refine norm_ (a' := ?_) ?_ ?_
                        rotate_left
                        · show Act.put _ (some 33) _ = _
                          simp only [Act.put, List.setIfInBounds_toArray, List.set_cons_zero, List.set_cons_succ, i64_w, i32_w]
                          rfl
                        refine one_ (i := 10) (N := some 41) #[true, true, true, true, true, true, true, true, true, true, true, false, false] rfl rfl (one_of HT_.out (by kernel_rfl)) (by decide) (fun K hK => ?_)
                        refine Kd.R_lit_step k128 _ 128 ?hg (N := 41) ?hd (xs := ([(⟨(rd_T128 y139 (ji15)).f0, (rd_T128 y139 (ji15)).f1, (rd_T128 y139 (ji15)).f2⟩ : S128)] : List (S128))) (inner := [.string ((rd_T128 y139 (ji15)).f0), .int .i64 ((rd_T128 y139 (ji15)).f1), .bool ((rd_T128 y139 (ji15)).f2)]) (ok := fun _ => True) (okp := fun _ => True) ?hr ?hp (fun _ hk => hk) trivial (Below.refl _ _) (Nat.le_refl _) (by simp) ?_; (case hd => rfl); (case hg => rfl); (case hr => first | (go_simp; done) | (go_simp; rfl)); (case hp => exact (Reps.c3 (show Kd.M k128 _ _ _ (⟨(rd_T128 y139 (ji15)).f0, (rd_T128 y139 (ji15)).f1, (rd_T128 y139 (ji15)).f2⟩ : S128) [.string ((rd_T128 y139 (ji15)).f0), .int .i64 ((rd_T128 y139 (ji15)).f1), .bool ((rd_T128 y139 (ji15)).f2)] from (k128_mkM _ _ _ (⟨(rd_T128 y139 (ji15)).f0, (rd_T128 y139 (ji15)).f1, (rd_T128 y139 (ji15)).f2⟩ : S128) )) (Reps.none _ _)))
                        intro v159 w28 ho29 hb hg_ hnew_
                        have HS0_ := (hb.cell (World.block_lt_of_cell? _ _ (hHeld.1))).trans (hHeld.1)
                        have HS1_ := (hb.cell (World.block_lt_of_cell? _ _ (hHeld.2.1))).trans (hHeld.2.1)
                        have HS2_ := (hb.cell (World.block_lt_of_cell? _ _ (hHeld.2.2))).trans (hHeld.2.2)
                        clear hg_ hnew_
                        (first | rw [← Ny158.out] at ho29 | (simp only [Int.reduceToNat] at ho29; rw [← Ny158.out] at ho29))
                        have n0_ := Aside0.mk (Kd.R_elder' (by (with_reducible repeat (first | apply Kd.R_alloc | apply Kd.R_drewN | apply Kd.R_drew)); exact HO_3.out) (Kd.R_base ho29) hb)
                        have n1_ := Aside0.mk (Kd.R_elder' (by (with_reducible repeat (first | apply Kd.R_alloc | apply Kd.R_drewN | apply Kd.R_drew)); exact HO_4.out) (Kd.R_base ho29) hb)
                        have n2_ := Aside0.mk (Kd.R_elder' (by (with_reducible repeat (first | apply Kd.R_alloc | apply Kd.R_drewN | apply Kd.R_drew)); exact HO156.out) (Kd.R_base ho29) hb)
                        have n3_ := Aside0.mk (Kd.R_lower (Kd.R_new' (Kd.R_new' (Kd.R_new' ho29 (Kd.R_lt (by (with_reducible repeat (first | apply Kd.R_alloc | apply Kd.R_drewN | apply Kd.R_drew)); exact HO_3.out))) (Kd.R_lt (by (with_reducible repeat (first | apply Kd.R_alloc | apply Kd.R_drewN | apply Kd.R_drew)); exact HO_4.out))) (Kd.R_lt (by (with_reducible repeat (first | apply Kd.R_alloc | apply Kd.R_drewN | apply Kd.R_drew)); exact HO156.out))) (keep_size (w := w) (g := g) (row := none) (by repeat (first | (with_reducible first | exact HK.out | apply KeepBut.set_ | apply keep_drewN | apply keep_drew | apply keep_alloc) | exact HK.out))))
                        have n4_ := Aside0.mk (IsS190.below (by repeat (first | (with_reducible first | exact HI0.out | apply IsS190.alloc | apply IsS190.drewN | apply IsS190.drew | apply IsS190.set_1 | apply IsS190.set_2) | exact HI0.out)) hb)
                        have n5_ := Aside0.mk (KeepBut.trans (by repeat (first | (with_reducible first | exact HK.out | apply KeepBut.set_ | apply keep_drewN | apply keep_drew | apply keep_alloc) | exact HK.out)) (KeepBut.of_below hb g none) (.inl rfl))
                        have n6_ := Aside0.mk (below_step (by repeat (first | (with_reducible first | exact HB.out | apply below_alloc | apply pw_below_drewN | apply below_drew1 | refine below_set ?_ (IsS190.ge HI0.out)) | exact HB.out)) hb)
                        clear HO_3
                        clear HO_4
                        clear HO156
                        clear HI0
                        clear HK
                        clear HB
                        have HO_3 := n0_
                        have HO_4 := n1_
                        have HO156 := n2_
                        have HO160 := n3_
                        have HI0 := n4_
                        have HK := n5_
                        have HB := n6_
                        clear n0_ n1_ n2_ n3_ n4_ n5_ n6_
                        clear hb ho29
                        refine hK.out _ _ ⟨HS0_, HS1_, HS2_⟩ (fun hHeld => ?_)
                        clear hK K
                        refine norm_ (a' := ?_) ?_ ?_
                        rotate_left
                        · show Act.put _ (some 41) _ = _
                          simp only [Act.put, List.setIfInBounds_toArray, List.set_cons_zero, List.set_cons_succ, i64_w, i32_w]
                          rfl
                        exact norm_ (by simp only [putAll, Act.put, List.setIfInBounds_toArray, List.set_cons_zero, List.set_cons_succ]) (hCont (v152, v155, v159) _ ⟨hHeld, (by (with_reducible repeat (first | apply Kd.R_alloc | apply Kd.R_drewN | apply Kd.R_drew)); exact Kd.R_mono HO156.out (fun _ hk => ⟨hk.2, ⟨hk.1.1, hk.1.2⟩⟩)), (by (with_reducible repeat (first | apply Kd.R_alloc | apply Kd.R_drewN | apply Kd.R_drew)); exact Kd.R_mono HO160.out (fun _ hk => ⟨hk.2, ⟨hk.1.1.2, hk.1.2⟩⟩)), (by (with_reducible repeat (first | apply Kd.R_alloc | apply Kd.R_drewN | apply Kd.R_drew)); exact Kd.R_mono HO_3.out (fun _ hk => ⟨hk.1.2, ⟨hk.2, hk.1.1⟩⟩)), (by (with_reducible repeat (first | apply Kd.R_alloc | apply Kd.R_drewN | apply Kd.R_drew)); exact Kd.R_mono HO_4.out (fun _ hk => ⟨hk.1.2, ⟨hk.2, hk.1.1⟩⟩)), (by repeat (first | (with_reducible first | exact HI0.out | apply IsS190.alloc | apply IsS190.drewN | apply IsS190.drew | apply IsS190.set_1 | apply IsS190.set_2) | exact HI0.out)), (by repeat (first | (with_reducible first | exact HK.out | apply KeepBut.set_ | apply keep_drewN | apply keep_drew | apply keep_alloc) | exact HK.out)), (by repeat (first | (with_reducible first | exact HB.out | apply below_alloc | apply pw_below_drewN | apply below_drew1 | refine below_set ?_ (IsS190.ge HI0.out)) | exact HB.out))⟩)
                      · skip
                        refine Kd.R_lit_step k128 _ 128 ?hg (N := 41) ?hd (xs := ([(⟨(rd_T128 y139 (ji15)).f0, (rd_T128 y139 (ji15)).f1, (rd_T128 y139 (ji15)).f2⟩ : S128)] : List (S128))) (inner := [.string ((rd_T128 y139 (ji15)).f0), .int .i64 ((rd_T128 y139 (ji15)).f1), .bool ((rd_T128 y139 (ji15)).f2)]) (ok := fun _ => True) (okp := fun _ => True) ?hr ?hp (fun _ hk => hk) trivial (Below.refl _ _) (Nat.le_refl _) (by simp) ?_; (case hd => rfl); (case hg => rfl); (case hr => first | (go_simp; done) | (go_simp; rfl)); (case hp => exact (Reps.c3 (show Kd.M k128 _ _ _ (⟨(rd_T128 y139 (ji15)).f0, (rd_T128 y139 (ji15)).f1, (rd_T128 y139 (ji15)).f2⟩ : S128) [.string ((rd_T128 y139 (ji15)).f0), .int .i64 ((rd_T128 y139 (ji15)).f1), .bool ((rd_T128 y139 (ji15)).f2)] from (k128_mkM _ _ _ (⟨(rd_T128 y139 (ji15)).f0, (rd_T128 y139 (ji15)).f1, (rd_T128 y139 (ji15)).f2⟩ : S128) )) (Reps.none _ _)))
                        intro v159 w27 ho28 hb hg_ hnew_
                        have HS0_ := (hb.cell (World.block_lt_of_cell? _ _ (hHeld.1))).trans (hHeld.1)
                        have HS1_ := (hb.cell (World.block_lt_of_cell? _ _ (hHeld.2.1))).trans (hHeld.2.1)
                        have HS2_ := (hb.cell (World.block_lt_of_cell? _ _ (hHeld.2.2))).trans (hHeld.2.2)
                        clear hg_ hnew_
                        (first | rw [← Ny158.out] at ho28 | (simp only [Int.reduceToNat] at ho28; rw [← Ny158.out] at ho28))
                        have n0_ := Aside0.mk (Kd.R_elder' (by (with_reducible repeat (first | apply Kd.R_alloc | apply Kd.R_drewN | apply Kd.R_drew)); exact HO_3.out) (Kd.R_base ho28) hb)
                        have n1_ := Aside0.mk (Kd.R_elder' (by (with_reducible repeat (first | apply Kd.R_alloc | apply Kd.R_drewN | apply Kd.R_drew)); exact HO_4.out) (Kd.R_base ho28) hb)
                        have n2_ := Aside0.mk (Kd.R_elder' (by (with_reducible repeat (first | apply Kd.R_alloc | apply Kd.R_drewN | apply Kd.R_drew)); exact HO153.out) (Kd.R_base ho28) hb)
                        have n3_ := Aside0.mk (Kd.R_lower (Kd.R_new' (Kd.R_new' (Kd.R_new' ho28 (Kd.R_lt (by (with_reducible repeat (first | apply Kd.R_alloc | apply Kd.R_drewN | apply Kd.R_drew)); exact HO_3.out))) (Kd.R_lt (by (with_reducible repeat (first | apply Kd.R_alloc | apply Kd.R_drewN | apply Kd.R_drew)); exact HO_4.out))) (Kd.R_lt (by (with_reducible repeat (first | apply Kd.R_alloc | apply Kd.R_drewN | apply Kd.R_drew)); exact HO153.out))) (keep_size (w := w) (g := g) (row := none) (by repeat (first | (with_reducible first | exact HK.out | apply KeepBut.set_ | apply keep_drewN | apply keep_drew | apply keep_alloc) | exact HK.out))))
                        have n4_ := Aside0.mk (IsS190.below (by repeat (first | (with_reducible first | exact HI0.out | apply IsS190.alloc | apply IsS190.drewN | apply IsS190.drew | apply IsS190.set_1 | apply IsS190.set_2) | exact HI0.out)) hb)
                        have n5_ := Aside0.mk (KeepBut.trans (by repeat (first | (with_reducible first | exact HK.out | apply KeepBut.set_ | apply keep_drewN | apply keep_drew | apply keep_alloc) | exact HK.out)) (KeepBut.of_below hb g none) (.inl rfl))
                        have n6_ := Aside0.mk (below_step (by repeat (first | (with_reducible first | exact HB.out | apply below_alloc | apply pw_below_drewN | apply below_drew1 | refine below_set ?_ (IsS190.ge HI0.out)) | exact HB.out)) hb)
                        clear HO_3
                        clear HO_4
                        clear HO153
                        clear HI0
                        clear HK
                        clear HB
                        have HO_3 := n0_
                        have HO_4 := n1_
                        have HO153 := n2_
                        have HO160 := n3_
                        have HI0 := n4_
                        have HK := n5_
                        have HB := n6_
                        clear n0_ n1_ n2_ n3_ n4_ n5_ n6_
                        clear hb ho28
                        refine hK.out _ _ ⟨HS0_, HS1_, HS2_⟩ (fun hHeld => ?_)
                        clear hK K
                        refine norm_ (a' := ?_) ?_ ?_
                        rotate_left
                        · show Act.put _ (some 41) _ = _
                          simp only [Act.put, List.setIfInBounds_toArray, List.set_cons_zero, List.set_cons_succ, i64_w, i32_w]
                          rfl
                        refine one_ (i := 2) (N := some 33) #[true, true, true, true, true, true, true, true, true, true, true, false, false] rfl rfl (one_of HT_.out (by kernel_rfl)) (by decide) (fun K hK => ?_)
                        refine Kd.R_append_rows_step k128 w.heap.size (by rfl) (.tmp 31) (.tmp 32) 52 128 (.agg #[(.string ⟨#[]⟩), (.int .i64 0), (.bool false)]) 32 rfl Try.underlying52 info128 rfl (by decide) (by omega) v152 y151 x4_1 _ _ _ (fun k_ => some k_ ≠ (.slice (some ad157) y139.length co24 : Value).ownBlock ∧ some k_ ≠ (.slice Ao22 x4_1.length co22 : Value).ownBlock ∧ some k_ ≠ (v159 : Value).ownBlock) (fun _ => False) rfl rfl ?aO ?aR (fun _ _ h => h) (fun _ h => h.elim) ?aF (Below.refl _ _) ?aS ?aL ?_
                        (case aR => repeat (first | exact (Kd.R_reads' HO_4.out).2.2 | (with_reducible refine Kd.C_alloc ?_ _) | (with_reducible refine Kd.C_drewN ?_ _) | (with_reducible refine Kd.C_drew ?_)))
                        (case aF => exact (fun k_ hk => ⟨Kd.fresh' (Kd.R_lt (by (with_reducible repeat (first | apply Kd.R_alloc | apply Kd.R_drewN | apply Kd.R_drew)); exact HO_3.out)) k_ hk, Kd.fresh' (Kd.R_lt (by (with_reducible repeat (first | apply Kd.R_alloc | apply Kd.R_drewN | apply Kd.R_drew)); exact HO_4.out)) k_ hk, Kd.fresh' (Kd.R_lt (by (with_reducible repeat (first | apply Kd.R_alloc | apply Kd.R_drewN | apply Kd.R_drew)); exact HO160.out)) k_ hk⟩))
                        (case aO => exact (by (with_reducible repeat (first | apply Kd.R_alloc | apply Kd.R_drewN | apply Kd.R_drew)); exact Kd.R_mono HO153.out (fun _ hk => ⟨hk.1.1.2, ⟨hk.1.2, hk.2⟩⟩)))
                        (case aS => exact (keep_size (w := w) (g := g) (row := none) (by repeat (first | (with_reducible first | exact HK.out | apply KeepBut.set_ | apply keep_drewN | apply keep_drew | apply keep_alloc) | exact HK.out))))
                        (case aL => have := LMc14.out; omega)
                        intro v155 w29 ho hb hg hat
                        have HS0_ := cell_grown hg (hHeld.1) (by first | (rw [add_block]; exact (fun e_ => by have h_ := HO153.out.1 _ e_.symm; first | exact h_ rfl | exact h_.1 rfl | exact h_.2 rfl | exact h_.1.1 rfl | exact h_.1.2 rfl | exact h_.2.1 rfl | exact h_.2.2 rfl | exact h_.1.1.1 rfl | exact h_.1.1.2 rfl | exact h_.1.2.1 rfl | exact h_.1.2.2 rfl | exact h_.2.1.1 rfl | exact h_.2.1.2 rfl | exact h_.2.2.1 rfl | exact h_.2.2.2 rfl | exact h_.1.1.1.2 rfl | exact h_.1.1.1.1 rfl)) | (show some (Addr.add _ _).block ≠ _; rw [add_block]; exact (fun e_ => by have h_ := HO153.out.1 _ e_.symm; first | exact h_ rfl | exact h_.1 rfl | exact h_.2 rfl | exact h_.1.1 rfl | exact h_.1.2 rfl | exact h_.2.1 rfl | exact h_.2.2 rfl | exact h_.1.1.1 rfl | exact h_.1.1.2 rfl | exact h_.1.2.1 rfl | exact h_.1.2.2 rfl | exact h_.2.1.1 rfl | exact h_.2.1.2 rfl | exact h_.2.2.1 rfl | exact h_.2.2.2 rfl | exact h_.1.1.1.2 rfl | exact h_.1.1.1.1 rfl)) | exact (fun e_ => by have h_ := HO153.out.1 _ e_.symm; first | exact h_ rfl | exact h_.1 rfl | exact h_.2 rfl | exact h_.1.1 rfl | exact h_.1.2 rfl | exact h_.2.1 rfl | exact h_.2.2 rfl | exact h_.1.1.1 rfl | exact h_.1.1.2 rfl | exact h_.1.2.1 rfl | exact h_.1.2.2 rfl | exact h_.2.1.1 rfl | exact h_.2.1.2 rfl | exact h_.2.2.1 rfl | exact h_.2.2.2 rfl | exact h_.1.1.1.2 rfl | exact h_.1.1.1.1 rfl))
                        have HS1_ := cell_grown hg (hHeld.2.1) (by first | (rw [add_block]; exact (fun e_ => by have h_ := HO153.out.1 _ e_.symm; first | exact h_ rfl | exact h_.1 rfl | exact h_.2 rfl | exact h_.1.1 rfl | exact h_.1.2 rfl | exact h_.2.1 rfl | exact h_.2.2 rfl | exact h_.1.1.1 rfl | exact h_.1.1.2 rfl | exact h_.1.2.1 rfl | exact h_.1.2.2 rfl | exact h_.2.1.1 rfl | exact h_.2.1.2 rfl | exact h_.2.2.1 rfl | exact h_.2.2.2 rfl | exact h_.1.1.1.2 rfl | exact h_.1.1.1.1 rfl)) | (show some (Addr.add _ _).block ≠ _; rw [add_block]; exact (fun e_ => by have h_ := HO153.out.1 _ e_.symm; first | exact h_ rfl | exact h_.1 rfl | exact h_.2 rfl | exact h_.1.1 rfl | exact h_.1.2 rfl | exact h_.2.1 rfl | exact h_.2.2 rfl | exact h_.1.1.1 rfl | exact h_.1.1.2 rfl | exact h_.1.2.1 rfl | exact h_.1.2.2 rfl | exact h_.2.1.1 rfl | exact h_.2.1.2 rfl | exact h_.2.2.1 rfl | exact h_.2.2.2 rfl | exact h_.1.1.1.2 rfl | exact h_.1.1.1.1 rfl)) | exact (fun e_ => by have h_ := HO153.out.1 _ e_.symm; first | exact h_ rfl | exact h_.1 rfl | exact h_.2 rfl | exact h_.1.1 rfl | exact h_.1.2 rfl | exact h_.2.1 rfl | exact h_.2.2 rfl | exact h_.1.1.1 rfl | exact h_.1.1.2 rfl | exact h_.1.2.1 rfl | exact h_.1.2.2 rfl | exact h_.2.1.1 rfl | exact h_.2.1.2 rfl | exact h_.2.2.1 rfl | exact h_.2.2.2 rfl | exact h_.1.1.1.2 rfl | exact h_.1.1.1.1 rfl))
                        have HS2_ := cell_grown hg (hHeld.2.2) (by first | (rw [add_block]; exact (fun e_ => by have h_ := HO153.out.1 _ e_.symm; first | exact h_ rfl | exact h_.1 rfl | exact h_.2 rfl | exact h_.1.1 rfl | exact h_.1.2 rfl | exact h_.2.1 rfl | exact h_.2.2 rfl | exact h_.1.1.1 rfl | exact h_.1.1.2 rfl | exact h_.1.2.1 rfl | exact h_.1.2.2 rfl | exact h_.2.1.1 rfl | exact h_.2.1.2 rfl | exact h_.2.2.1 rfl | exact h_.2.2.2 rfl | exact h_.1.1.1.2 rfl | exact h_.1.1.1.1 rfl)) | (show some (Addr.add _ _).block ≠ _; rw [add_block]; exact (fun e_ => by have h_ := HO153.out.1 _ e_.symm; first | exact h_ rfl | exact h_.1 rfl | exact h_.2 rfl | exact h_.1.1 rfl | exact h_.1.2 rfl | exact h_.2.1 rfl | exact h_.2.2 rfl | exact h_.1.1.1 rfl | exact h_.1.1.2 rfl | exact h_.1.2.1 rfl | exact h_.1.2.2 rfl | exact h_.2.1.1 rfl | exact h_.2.1.2 rfl | exact h_.2.2.1 rfl | exact h_.2.2.2 rfl | exact h_.1.1.1.2 rfl | exact h_.1.1.1.1 rfl)) | exact (fun e_ => by have h_ := HO153.out.1 _ e_.symm; first | exact h_ rfl | exact h_.1 rfl | exact h_.2 rfl | exact h_.1.1 rfl | exact h_.1.2 rfl | exact h_.2.1 rfl | exact h_.2.2 rfl | exact h_.1.1.1 rfl | exact h_.1.1.2 rfl | exact h_.1.2.1 rfl | exact h_.1.2.2 rfl | exact h_.2.1.1 rfl | exact h_.2.1.2 rfl | exact h_.2.2.1 rfl | exact h_.2.2.2 rfl | exact h_.1.1.1.2 rfl | exact h_.1.1.1.1 rfl))
                        rw [← Ny154.out] at ho
                        have n0_ := Aside0.mk (Kd.R_after (ok := (fun k_ => some k_ ≠ (.slice Ao22 x4_1.length co22 : Value).ownBlock ∧ some k_ ≠ (v159 : Value).ownBlock)) (by (with_reducible repeat (first | apply Kd.R_alloc | apply Kd.R_drewN | apply Kd.R_drew)); exact Kd.R_mono HO_3.out (fun _ hk => ⟨⟨hk.1.1, hk.2⟩, hk.1.2⟩)) hg hat)
                        have n1_ := Aside0.mk (Kd.R_after (ok := (fun k_ => some k_ ≠ (.slice (some ad157) y139.length co24 : Value).ownBlock ∧ some k_ ≠ (v159 : Value).ownBlock)) (by (with_reducible repeat (first | apply Kd.R_alloc | apply Kd.R_drewN | apply Kd.R_drew)); exact Kd.R_mono HO_4.out (fun _ hk => ⟨⟨hk.1.1, hk.2⟩, hk.1.2⟩)) hg hat)
                        have n2_ := Aside0.mk (IsS190.grown (by repeat (first | (with_reducible first | exact HI0.out | apply IsS190.alloc | apply IsS190.drewN | apply IsS190.drew | apply IsS190.set_1 | apply IsS190.set_2) | exact HI0.out)) hg (IsS190.own_ne HI0.out HO153.out (by decide)))
                        have n3_ := Aside0.mk (Kd.R_after (ok := (fun k_ => some k_ ≠ (.slice (some ad157) y139.length co24 : Value).ownBlock ∧ some k_ ≠ (.slice Ao22 x4_1.length co22 : Value).ownBlock)) (by (with_reducible repeat (first | apply Kd.R_alloc | apply Kd.R_drewN | apply Kd.R_drew)); exact Kd.R_mono HO160.out (fun _ hk => ⟨⟨hk.1.1.2, hk.1.2⟩, hk.2⟩)) hg hat)
                        have n4_ := Aside0.mk (below_weaken (by repeat (first | (with_reducible first | exact HB.out | apply below_alloc | apply pw_below_drewN | apply below_drew1 | refine below_set ?_ (IsS190.ge HI0.out)) | exact HB.out)) HL.out hb)
                        have n5_ := Aside0.mk (KeepBut.trans (by repeat (first | (with_reducible first | exact HK.out | apply KeepBut.set_ | apply keep_drewN | apply keep_drew | apply keep_alloc) | exact HK.out)) (KeepBut.of_grown hg g) (Kd.R_base2 HO153.out))
                        have n6_ := Aside0.mk (ho)
                        clear HO_3
                        clear HO_4
                        clear HI0
                        clear HO160
                        clear HB
                        clear HK
                        clear HO153
                        have HO_3 := n0_
                        have HO_4 := n1_
                        have HI0 := n2_
                        have HO160 := n3_
                        have HB := n4_
                        have HK := n5_
                        have HO156 := n6_
                        clear n0_ n1_ n2_ n3_ n4_ n5_ n6_
                        clear ho hb hg hat
                        refine hK.out _ _ ⟨HS0_, HS1_, HS2_⟩ (fun hHeld => ?_)
                        clear hK K
                        refine norm_ (a' := ?_) ?_ ?_
                        rotate_left
                        · show Act.put _ (some 33) _ = _
                          simp only [Act.put, List.setIfInBounds_toArray, List.set_cons_zero, List.set_cons_succ, i64_w, i32_w]
                          rfl
                        exact norm_ (by simp only [putAll, Act.put, List.setIfInBounds_toArray, List.set_cons_zero, List.set_cons_succ]) (hCont (v152, v155, v159) _ ⟨hHeld, (by (with_reducible repeat (first | apply Kd.R_alloc | apply Kd.R_drewN | apply Kd.R_drew)); exact Kd.R_mono HO156.out (fun _ hk => ⟨hk.2.2, ⟨hk.1, hk.2.1⟩⟩)), (by (with_reducible repeat (first | apply Kd.R_alloc | apply Kd.R_drewN | apply Kd.R_drew)); exact Kd.R_mono HO160.out (fun _ hk => ⟨hk.2, ⟨hk.1.1, hk.1.2⟩⟩)), (by (with_reducible repeat (first | apply Kd.R_alloc | apply Kd.R_drewN | apply Kd.R_drew)); exact Kd.R_mono HO_3.out (fun _ hk => ⟨hk.2, ⟨hk.1.2, hk.1.1⟩⟩)), (by (with_reducible repeat (first | apply Kd.R_alloc | apply Kd.R_drewN | apply Kd.R_drew)); exact Kd.R_mono HO_4.out (fun _ hk => ⟨hk.2, ⟨hk.1.2, hk.1.1⟩⟩)), (by repeat (first | (with_reducible first | exact HI0.out | apply IsS190.alloc | apply IsS190.drewN | apply IsS190.drew | apply IsS190.set_1 | apply IsS190.set_2) | exact HI0.out)), (by repeat (first | (with_reducible first | exact HK.out | apply KeepBut.set_ | apply keep_drewN | apply keep_drew | apply keep_alloc) | exact HK.out)), (by repeat (first | (with_reducible first | exact HB.out | apply below_alloc | apply pw_below_drewN | apply below_drew1 | refine below_set ?_ (IsS190.ge HI0.out)) | exact HB.out))⟩)
                    · skip
                      refine Kd.R_lit_step k128 _ 128 ?hg (N := 41) ?hd (xs := ([(⟨(rd_T128 y139 (ji15)).f0, (rd_T128 y139 (ji15)).f1, (rd_T128 y139 (ji15)).f2⟩ : S128)] : List (S128))) (inner := [.string ((rd_T128 y139 (ji15)).f0), .int .i64 ((rd_T128 y139 (ji15)).f1), .bool ((rd_T128 y139 (ji15)).f2)]) (ok := fun _ => True) (okp := fun _ => True) ?hr ?hp (fun _ hk => hk) trivial (Below.refl _ _) (Nat.le_refl _) (by simp) ?_; (case hd => rfl); (case hg => rfl); (case hr => first | (go_simp; done) | (go_simp; rfl)); (case hp => exact (Reps.c3 (show Kd.M k128 _ _ _ (⟨(rd_T128 y139 (ji15)).f0, (rd_T128 y139 (ji15)).f1, (rd_T128 y139 (ji15)).f2⟩ : S128) [.string ((rd_T128 y139 (ji15)).f0), .int .i64 ((rd_T128 y139 (ji15)).f1), .bool ((rd_T128 y139 (ji15)).f2)] from (k128_mkM _ _ _ (⟨(rd_T128 y139 (ji15)).f0, (rd_T128 y139 (ji15)).f1, (rd_T128 y139 (ji15)).f2⟩ : S128) )) (Reps.none _ _)))
                      intro v159 w25 ho26 hb hg_ hnew_
                      have HS0_ := (hb.cell (World.block_lt_of_cell? _ _ (hHeld.1))).trans (hHeld.1)
                      have HS1_ := (hb.cell (World.block_lt_of_cell? _ _ (hHeld.2.1))).trans (hHeld.2.1)
                      have HS2_ := (hb.cell (World.block_lt_of_cell? _ _ (hHeld.2.2))).trans (hHeld.2.2)
                      clear hg_ hnew_
                      (first | rw [← Ny158.out] at ho26 | (simp only [Int.reduceToNat] at ho26; rw [← Ny158.out] at ho26))
                      have n0_ := Aside0.mk (Kd.R_elder' (by (with_reducible repeat (first | apply Kd.R_alloc | apply Kd.R_drewN | apply Kd.R_drew)); exact HO_3.out) (Kd.R_base ho26) hb)
                      have n1_ := Aside0.mk (Kd.R_elder' (by (with_reducible repeat (first | apply Kd.R_alloc | apply Kd.R_drewN | apply Kd.R_drew)); exact HO_4.out) (Kd.R_base ho26) hb)
                      have n2_ := Aside0.mk (Kd.R_lower (Kd.R_new' (Kd.R_new' ho26 (Kd.R_lt (by (with_reducible repeat (first | apply Kd.R_alloc | apply Kd.R_drewN | apply Kd.R_drew)); exact HO_3.out))) (Kd.R_lt (by (with_reducible repeat (first | apply Kd.R_alloc | apply Kd.R_drewN | apply Kd.R_drew)); exact HO_4.out))) (keep_size (w := w) (g := g) (row := none) (by repeat (first | (with_reducible first | exact HK.out | apply KeepBut.set_ | apply keep_drewN | apply keep_drew | apply keep_alloc) | exact HK.out))))
                      have n3_ := Aside0.mk (IsS190.below (by repeat (first | (with_reducible first | exact HI0.out | apply IsS190.alloc | apply IsS190.drewN | apply IsS190.drew | apply IsS190.set_1 | apply IsS190.set_2) | exact HI0.out)) hb)
                      have n4_ := Aside0.mk (KeepBut.trans (by repeat (first | (with_reducible first | exact HK.out | apply KeepBut.set_ | apply keep_drewN | apply keep_drew | apply keep_alloc) | exact HK.out)) (KeepBut.of_below hb g none) (.inl rfl))
                      have n5_ := Aside0.mk (below_step (by repeat (first | (with_reducible first | exact HB.out | apply below_alloc | apply pw_below_drewN | apply below_drew1 | refine below_set ?_ (IsS190.ge HI0.out)) | exact HB.out)) hb)
                      clear HO_3
                      clear HO_4
                      clear HI0
                      clear HK
                      clear HB
                      have HO_3 := n0_
                      have HO_4 := n1_
                      have HO160 := n2_
                      have HI0 := n3_
                      have HK := n4_
                      have HB := n5_
                      clear n0_ n1_ n2_ n3_ n4_ n5_
                      clear hb ho26
                      refine hK.out _ _ ⟨HS0_, HS1_, HS2_⟩ (fun hHeld => ?_)
                      clear hK K
                      refine norm_ (a' := ?_) ?_ ?_
                      rotate_left
                      · show Act.put _ (some 41) _ = _
                        simp only [Act.put, List.setIfInBounds_toArray, List.set_cons_zero, List.set_cons_succ, i64_w, i32_w]
                        rfl
                      refine one_ (i := 0) (N := some 31) #[true, true, false, true, true, true, true, true, true, true, true, false, false] rfl rfl (one_of HT_.out (by kernel_rfl)) (by decide) (fun K hK => ?_)
                      refine Kd.R_lit_step k128 _ 128 ?hg (N := 31) ?hd (xs := ([] : List (S128))) (inner := []) (ok := fun _ => True) (okp := fun _ => True) ?hr ?hp (fun _ hk => hk) trivial (Below.refl _ _) (Nat.le_refl _) (by simp) ?_; (case hd => rfl); (case hg => rfl); (case hr => first | (go_simp; done) | (go_simp; rfl)); (case hp => exact (Reps.none _ _))
                      intro v152 w27 ho28 hb hg_ hnew_
                      have HS0_ := (hb.cell (World.block_lt_of_cell? _ _ (hHeld.1))).trans (hHeld.1)
                      have HS1_ := (hb.cell (World.block_lt_of_cell? _ _ (hHeld.2.1))).trans (hHeld.2.1)
                      have HS2_ := (hb.cell (World.block_lt_of_cell? _ _ (hHeld.2.2))).trans (hHeld.2.2)
                      clear hg_ hnew_
                      (first | rw [← Ny151.out] at ho28 | (simp only [Int.reduceToNat] at ho28; rw [← Ny151.out] at ho28))
                      have n0_ := Aside0.mk (Kd.R_elder' (by (with_reducible repeat (first | apply Kd.R_alloc | apply Kd.R_drewN | apply Kd.R_drew)); exact HO_3.out) (Kd.R_base ho28) hb)
                      have n1_ := Aside0.mk (Kd.R_elder' (by (with_reducible repeat (first | apply Kd.R_alloc | apply Kd.R_drewN | apply Kd.R_drew)); exact HO_4.out) (Kd.R_base ho28) hb)
                      have n2_ := Aside0.mk (Kd.R_elder' (by (with_reducible repeat (first | apply Kd.R_alloc | apply Kd.R_drewN | apply Kd.R_drew)); exact HO160.out) (Kd.R_base ho28) hb)
                      have n3_ := Aside0.mk (Kd.R_lower (Kd.R_new' (Kd.R_new' (Kd.R_new' ho28 (Kd.R_lt (by (with_reducible repeat (first | apply Kd.R_alloc | apply Kd.R_drewN | apply Kd.R_drew)); exact HO_3.out))) (Kd.R_lt (by (with_reducible repeat (first | apply Kd.R_alloc | apply Kd.R_drewN | apply Kd.R_drew)); exact HO_4.out))) (Kd.R_lt (by (with_reducible repeat (first | apply Kd.R_alloc | apply Kd.R_drewN | apply Kd.R_drew)); exact HO160.out))) (keep_size (w := w) (g := g) (row := none) (by repeat (first | (with_reducible first | exact HK.out | apply KeepBut.set_ | apply keep_drewN | apply keep_drew | apply keep_alloc) | exact HK.out))))
                      have n4_ := Aside0.mk (IsS190.below (by repeat (first | (with_reducible first | exact HI0.out | apply IsS190.alloc | apply IsS190.drewN | apply IsS190.drew | apply IsS190.set_1 | apply IsS190.set_2) | exact HI0.out)) hb)
                      have n5_ := Aside0.mk (KeepBut.trans (by repeat (first | (with_reducible first | exact HK.out | apply KeepBut.set_ | apply keep_drewN | apply keep_drew | apply keep_alloc) | exact HK.out)) (KeepBut.of_below hb g none) (.inl rfl))
                      have n6_ := Aside0.mk (below_step (by repeat (first | (with_reducible first | exact HB.out | apply below_alloc | apply pw_below_drewN | apply below_drew1 | refine below_set ?_ (IsS190.ge HI0.out)) | exact HB.out)) hb)
                      clear HO_3
                      clear HO_4
                      clear HO160
                      clear HI0
                      clear HK
                      clear HB
                      have HO_3 := n0_
                      have HO_4 := n1_
                      have HO160 := n2_
                      have HO153 := n3_
                      have HI0 := n4_
                      have HK := n5_
                      have HB := n6_
                      clear n0_ n1_ n2_ n3_ n4_ n5_ n6_
                      clear hb ho28
                      refine hK.out _ _ ⟨HS0_, HS1_, HS2_⟩ (fun hHeld => ?_)
                      clear hK K
                      refine norm_ (a' := ?_) ?_ ?_
                      rotate_left
                      · show Act.put _ (some 31) _ = _
                        simp only [Act.put, List.setIfInBounds_toArray, List.set_cons_zero, List.set_cons_succ, i64_w, i32_w]
                        rfl
                      refine one_ (i := 2) (N := some 33) #[true, true, true, true, true, true, true, true, true, true, true, false, false] rfl rfl (one_of HT_.out (by kernel_rfl)) (by decide) (fun K hK => ?_)
                      refine Kd.R_append_rows_step k128 w.heap.size (by rfl) (.tmp 31) (.tmp 32) 52 128 (.agg #[(.string ⟨#[]⟩), (.int .i64 0), (.bool false)]) 32 rfl Try.underlying52 info128 rfl (by decide) (by omega) v152 y151 x4_1 _ _ _ (fun k_ => some k_ ≠ (.slice (some ad157) y139.length co24 : Value).ownBlock ∧ some k_ ≠ (.slice Ao22 x4_1.length co22 : Value).ownBlock ∧ some k_ ≠ (v159 : Value).ownBlock) (fun _ => False) rfl rfl ?aO ?aR (fun _ _ h => h) (fun _ h => h.elim) ?aF (Below.refl _ _) ?aS ?aL ?_
                      (case aR => repeat (first | exact (Kd.R_reads' HO_4.out).2.2 | (with_reducible refine Kd.C_alloc ?_ _) | (with_reducible refine Kd.C_drewN ?_ _) | (with_reducible refine Kd.C_drew ?_)))
                      (case aF => exact (fun k_ hk => ⟨Kd.fresh' (Kd.R_lt (by (with_reducible repeat (first | apply Kd.R_alloc | apply Kd.R_drewN | apply Kd.R_drew)); exact HO_3.out)) k_ hk, Kd.fresh' (Kd.R_lt (by (with_reducible repeat (first | apply Kd.R_alloc | apply Kd.R_drewN | apply Kd.R_drew)); exact HO_4.out)) k_ hk, Kd.fresh' (Kd.R_lt (by (with_reducible repeat (first | apply Kd.R_alloc | apply Kd.R_drewN | apply Kd.R_drew)); exact HO160.out)) k_ hk⟩))
                      (case aO => exact (by (with_reducible repeat (first | apply Kd.R_alloc | apply Kd.R_drewN | apply Kd.R_drew)); exact Kd.R_mono HO153.out (fun _ hk => ⟨hk.1.1.2, ⟨hk.1.2, hk.2⟩⟩)))
                      (case aS => exact (keep_size (w := w) (g := g) (row := none) (by repeat (first | (with_reducible first | exact HK.out | apply KeepBut.set_ | apply keep_drewN | apply keep_drew | apply keep_alloc) | exact HK.out))))
                      (case aL => have := LMc14.out; omega)
                      intro v155 w29 ho hb hg hat
                      have HS0_ := cell_grown hg (hHeld.1) (by first | (rw [add_block]; exact (fun e_ => by have h_ := HO153.out.1 _ e_.symm; first | exact h_ rfl | exact h_.1 rfl | exact h_.2 rfl | exact h_.1.1 rfl | exact h_.1.2 rfl | exact h_.2.1 rfl | exact h_.2.2 rfl | exact h_.1.1.1 rfl | exact h_.1.1.2 rfl | exact h_.1.2.1 rfl | exact h_.1.2.2 rfl | exact h_.2.1.1 rfl | exact h_.2.1.2 rfl | exact h_.2.2.1 rfl | exact h_.2.2.2 rfl | exact h_.1.1.1.2 rfl | exact h_.1.1.1.1 rfl)) | (show some (Addr.add _ _).block ≠ _; rw [add_block]; exact (fun e_ => by have h_ := HO153.out.1 _ e_.symm; first | exact h_ rfl | exact h_.1 rfl | exact h_.2 rfl | exact h_.1.1 rfl | exact h_.1.2 rfl | exact h_.2.1 rfl | exact h_.2.2 rfl | exact h_.1.1.1 rfl | exact h_.1.1.2 rfl | exact h_.1.2.1 rfl | exact h_.1.2.2 rfl | exact h_.2.1.1 rfl | exact h_.2.1.2 rfl | exact h_.2.2.1 rfl | exact h_.2.2.2 rfl | exact h_.1.1.1.2 rfl | exact h_.1.1.1.1 rfl)) | exact (fun e_ => by have h_ := HO153.out.1 _ e_.symm; first | exact h_ rfl | exact h_.1 rfl | exact h_.2 rfl | exact h_.1.1 rfl | exact h_.1.2 rfl | exact h_.2.1 rfl | exact h_.2.2 rfl | exact h_.1.1.1 rfl | exact h_.1.1.2 rfl | exact h_.1.2.1 rfl | exact h_.1.2.2 rfl | exact h_.2.1.1 rfl | exact h_.2.1.2 rfl | exact h_.2.2.1 rfl | exact h_.2.2.2 rfl | exact h_.1.1.1.2 rfl | exact h_.1.1.1.1 rfl))
                      have HS1_ := cell_grown hg (hHeld.2.1) (by first | (rw [add_block]; exact (fun e_ => by have h_ := HO153.out.1 _ e_.symm; first | exact h_ rfl | exact h_.1 rfl | exact h_.2 rfl | exact h_.1.1 rfl | exact h_.1.2 rfl | exact h_.2.1 rfl | exact h_.2.2 rfl | exact h_.1.1.1 rfl | exact h_.1.1.2 rfl | exact h_.1.2.1 rfl | exact h_.1.2.2 rfl | exact h_.2.1.1 rfl | exact h_.2.1.2 rfl | exact h_.2.2.1 rfl | exact h_.2.2.2 rfl | exact h_.1.1.1.2 rfl | exact h_.1.1.1.1 rfl)) | (show some (Addr.add _ _).block ≠ _; rw [add_block]; exact (fun e_ => by have h_ := HO153.out.1 _ e_.symm; first | exact h_ rfl | exact h_.1 rfl | exact h_.2 rfl | exact h_.1.1 rfl | exact h_.1.2 rfl | exact h_.2.1 rfl | exact h_.2.2 rfl | exact h_.1.1.1 rfl | exact h_.1.1.2 rfl | exact h_.1.2.1 rfl | exact h_.1.2.2 rfl | exact h_.2.1.1 rfl | exact h_.2.1.2 rfl | exact h_.2.2.1 rfl | exact h_.2.2.2 rfl | exact h_.1.1.1.2 rfl | exact h_.1.1.1.1 rfl)) | exact (fun e_ => by have h_ := HO153.out.1 _ e_.symm; first | exact h_ rfl | exact h_.1 rfl | exact h_.2 rfl | exact h_.1.1 rfl | exact h_.1.2 rfl | exact h_.2.1 rfl | exact h_.2.2 rfl | exact h_.1.1.1 rfl | exact h_.1.1.2 rfl | exact h_.1.2.1 rfl | exact h_.1.2.2 rfl | exact h_.2.1.1 rfl | exact h_.2.1.2 rfl | exact h_.2.2.1 rfl | exact h_.2.2.2 rfl | exact h_.1.1.1.2 rfl | exact h_.1.1.1.1 rfl))
                      have HS2_ := cell_grown hg (hHeld.2.2) (by first | (rw [add_block]; exact (fun e_ => by have h_ := HO153.out.1 _ e_.symm; first | exact h_ rfl | exact h_.1 rfl | exact h_.2 rfl | exact h_.1.1 rfl | exact h_.1.2 rfl | exact h_.2.1 rfl | exact h_.2.2 rfl | exact h_.1.1.1 rfl | exact h_.1.1.2 rfl | exact h_.1.2.1 rfl | exact h_.1.2.2 rfl | exact h_.2.1.1 rfl | exact h_.2.1.2 rfl | exact h_.2.2.1 rfl | exact h_.2.2.2 rfl | exact h_.1.1.1.2 rfl | exact h_.1.1.1.1 rfl)) | (show some (Addr.add _ _).block ≠ _; rw [add_block]; exact (fun e_ => by have h_ := HO153.out.1 _ e_.symm; first | exact h_ rfl | exact h_.1 rfl | exact h_.2 rfl | exact h_.1.1 rfl | exact h_.1.2 rfl | exact h_.2.1 rfl | exact h_.2.2 rfl | exact h_.1.1.1 rfl | exact h_.1.1.2 rfl | exact h_.1.2.1 rfl | exact h_.1.2.2 rfl | exact h_.2.1.1 rfl | exact h_.2.1.2 rfl | exact h_.2.2.1 rfl | exact h_.2.2.2 rfl | exact h_.1.1.1.2 rfl | exact h_.1.1.1.1 rfl)) | exact (fun e_ => by have h_ := HO153.out.1 _ e_.symm; first | exact h_ rfl | exact h_.1 rfl | exact h_.2 rfl | exact h_.1.1 rfl | exact h_.1.2 rfl | exact h_.2.1 rfl | exact h_.2.2 rfl | exact h_.1.1.1 rfl | exact h_.1.1.2 rfl | exact h_.1.2.1 rfl | exact h_.1.2.2 rfl | exact h_.2.1.1 rfl | exact h_.2.1.2 rfl | exact h_.2.2.1 rfl | exact h_.2.2.2 rfl | exact h_.1.1.1.2 rfl | exact h_.1.1.1.1 rfl))
                      rw [← Ny154.out] at ho
                      have n0_ := Aside0.mk (Kd.R_after (ok := (fun k_ => some k_ ≠ (.slice Ao22 x4_1.length co22 : Value).ownBlock ∧ some k_ ≠ (v159 : Value).ownBlock)) (by (with_reducible repeat (first | apply Kd.R_alloc | apply Kd.R_drewN | apply Kd.R_drew)); exact HO_3.out) hg hat)
                      have n1_ := Aside0.mk (Kd.R_after (ok := (fun k_ => some k_ ≠ (.slice (some ad157) y139.length co24 : Value).ownBlock ∧ some k_ ≠ (v159 : Value).ownBlock)) (by (with_reducible repeat (first | apply Kd.R_alloc | apply Kd.R_drewN | apply Kd.R_drew)); exact HO_4.out) hg hat)
                      have n2_ := Aside0.mk (IsS190.grown (by repeat (first | (with_reducible first | exact HI0.out | apply IsS190.alloc | apply IsS190.drewN | apply IsS190.drew | apply IsS190.set_1 | apply IsS190.set_2) | exact HI0.out)) hg (IsS190.own_ne HI0.out HO153.out (by decide)))
                      have n3_ := Aside0.mk (Kd.R_after (ok := (fun k_ => some k_ ≠ (.slice (some ad157) y139.length co24 : Value).ownBlock ∧ some k_ ≠ (.slice Ao22 x4_1.length co22 : Value).ownBlock)) (by (with_reducible repeat (first | apply Kd.R_alloc | apply Kd.R_drewN | apply Kd.R_drew)); exact Kd.R_mono HO160.out (fun _ hk => ⟨⟨hk.1.1.2, hk.1.2⟩, hk.2⟩)) hg hat)
                      have n4_ := Aside0.mk (below_weaken (by repeat (first | (with_reducible first | exact HB.out | apply below_alloc | apply pw_below_drewN | apply below_drew1 | refine below_set ?_ (IsS190.ge HI0.out)) | exact HB.out)) HL.out hb)
                      have n5_ := Aside0.mk (KeepBut.trans (by repeat (first | (with_reducible first | exact HK.out | apply KeepBut.set_ | apply keep_drewN | apply keep_drew | apply keep_alloc) | exact HK.out)) (KeepBut.of_grown hg g) (Kd.R_base2 HO153.out))
                      have n6_ := Aside0.mk (ho)
                      clear HO_3
                      clear HO_4
                      clear HI0
                      clear HO160
                      clear HB
                      clear HK
                      clear HO153
                      have HO_3 := n0_
                      have HO_4 := n1_
                      have HI0 := n2_
                      have HO160 := n3_
                      have HB := n4_
                      have HK := n5_
                      have HO156 := n6_
                      clear n0_ n1_ n2_ n3_ n4_ n5_ n6_
                      clear ho hb hg hat
                      refine hK.out _ _ ⟨HS0_, HS1_, HS2_⟩ (fun hHeld => ?_)
                      clear hK K
                      refine norm_ (a' := ?_) ?_ ?_
                      rotate_left
                      · show Act.put _ (some 33) _ = _
                        simp only [Act.put, List.setIfInBounds_toArray, List.set_cons_zero, List.set_cons_succ, i64_w, i32_w]
                        rfl
                      exact norm_ (by simp only [putAll, Act.put, List.setIfInBounds_toArray, List.set_cons_zero, List.set_cons_succ]) (hCont (v152, v155, v159) _ ⟨hHeld, (by (with_reducible repeat (first | apply Kd.R_alloc | apply Kd.R_drewN | apply Kd.R_drew)); exact Kd.R_mono HO156.out (fun _ hk => ⟨hk.2.2, ⟨hk.1, hk.2.1⟩⟩)), (by (with_reducible repeat (first | apply Kd.R_alloc | apply Kd.R_drewN | apply Kd.R_drew)); exact Kd.R_mono HO160.out (fun _ hk => ⟨hk.2, ⟨hk.1.1, hk.1.2⟩⟩)), (by (with_reducible repeat (first | apply Kd.R_alloc | apply Kd.R_drewN | apply Kd.R_drew)); exact Kd.R_mono HO_3.out (fun _ hk => ⟨hk.2, ⟨hk.1.2, hk.1.1⟩⟩)), (by (with_reducible repeat (first | apply Kd.R_alloc | apply Kd.R_drewN | apply Kd.R_drew)); exact Kd.R_mono HO_4.out (fun _ hk => ⟨hk.2, ⟨hk.1.2, hk.1.1⟩⟩)), (by repeat (first | (with_reducible first | exact HI0.out | apply IsS190.alloc | apply IsS190.drewN | apply IsS190.drew | apply IsS190.set_1 | apply IsS190.set_2) | exact HI0.out)), (by repeat (first | (with_reducible first | exact HK.out | apply KeepBut.set_ | apply keep_drewN | apply keep_drew | apply keep_alloc) | exact HK.out)), (by repeat (first | (with_reducible first | exact HB.out | apply below_alloc | apply pw_below_drewN | apply below_drew1 | refine below_set ?_ (IsS190.ge HI0.out)) | exact HB.out))⟩)
                  rintro ⟨v152, v155, v159⟩ w30 ⟨hS_, h0_, h1_, h2_, h3_, h4_, h5_, h6_⟩
                  have n0_ : Aside0 (Kd.R k128 128 w30 w.heap.size (fun k_ => some k_ ≠ (v159 : Value).ownBlock ∧ some k_ ≠ (.slice (some ad157) y139.length co24 : Value).ownBlock ∧ some k_ ≠ (.slice Ao22 x4_1.length co22 : Value).ownBlock) v155 y154) := ⟨h0_⟩
                  have n1_ : Aside0 (Kd.R k128 128 w30 w.heap.size (fun k_ => some k_ ≠ (v155 : Value).ownBlock ∧ some k_ ≠ (.slice (some ad157) y139.length co24 : Value).ownBlock ∧ some k_ ≠ (.slice Ao22 x4_1.length co22 : Value).ownBlock) v159 y158) := ⟨h1_⟩
                  have n2_ : Aside0 (Kd.R k128 128 w30 w.heap.size (fun k_ => some k_ ≠ (v155 : Value).ownBlock ∧ some k_ ≠ (v159 : Value).ownBlock ∧ some k_ ≠ (.slice Ao22 x4_1.length co22 : Value).ownBlock) (.slice (some ad157) y139.length co24) y139) := ⟨h2_⟩
                  have n3_ : Aside0 (Kd.R k128 128 w30 w.heap.size (fun k_ => some k_ ≠ (v155 : Value).ownBlock ∧ some k_ ≠ (v159 : Value).ownBlock ∧ some k_ ≠ (.slice (some ad157) y139.length co24 : Value).ownBlock) (.slice Ao22 x4_1.length co22) x4_1) := ⟨h3_⟩
                  have n4_ : Aside0 (IsS190 w0 w30 g s0_0 t149 t150) := ⟨h4_⟩
                  have n5_ : Aside0 (KeepBut w w30 g none) := ⟨h5_⟩
                  have n6_ : Aside0 (Below w0.heap.size w0 w30) := ⟨h6_⟩
                  clear HO_3
                  clear HO_4
                  clear HI0
                  clear HK
                  clear HB
                  clear h0_ h1_ h2_ h3_ h4_ h5_ h6_
                  have HO156 := n0_
                  have HO160 := n1_
                  have HO_3 := n2_
                  have HO_4 := n3_
                  have HI0 := n4_
                  have HK := n5_
                  have HB := n6_
                  clear n0_ n1_ n2_ n3_ n4_ n5_ n6_
                  have hHeld : w30.cell? (ad157.add (((ji15)).toNat * 3)) = some (.string ((rd_T128 y139 (ji15)).f0)) ∧ w30.cell? ⟨(ad157.add (((ji15)).toNat * 3)).block, (ad157.add (((ji15)).toNat * 3)).off + 1, none⟩ = some (.int .i64 ((rd_T128 y139 (ji15)).f1)) ∧ w30.cell? ⟨(ad157.add (((ji15)).toNat * 3)).block, (ad157.add (((ji15)).toNat * 3)).off + 2, none⟩ = some (.bool ((rd_T128 y139 (ji15)).f2)) := hS_
                  obtain ⟨Ao32, co32, eo32⟩ := Kd.R_slice HO160.out
                  (first | subst eo32 | (injection eo32 with f1_ f2_ f3_; have f4_ := f1_.symm; have f5_ := f3_.symm; clear f1_ f2_ f3_; subst f4_; subst f5_))
                  refine norm_ (a' := ?_) ?_ ?_
                  rotate_left
                  · simp only [putAll, Act.put, List.setIfInBounds_toArray, List.set_cons_zero, List.set_cons_succ]
                    rfl
                  refine one_ (i := 11) (N := some 42) #[true, true, true, true, true, true, true, true, true, true, true, true, false] rfl rfl (one_of HT_.out (by kernel_rfl)) (by decide) (fun K hK => ?_)
                  refine Kd.R_append_rows_step k128 w.heap.size (by rfl) (.tmp 33) (.tmp 41) 52 128 (.agg #[(.string ⟨#[]⟩), (.int .i64 0), (.bool false)]) 32 rfl Try.underlying52 info128 rfl (by decide) (by omega) v155 y154 y158 _ _ _ (fun k_ => some k_ ≠ (.slice (some ad157) y139.length co24 : Value).ownBlock ∧ some k_ ≠ (.slice Ao22 x4_1.length co22 : Value).ownBlock ∧ some k_ ≠ (.slice Ao32 y158.length co32 : Value).ownBlock) (fun _ => False) rfl rfl ?aO ?aR (fun _ _ h => h) (fun _ h => h.elim) ?aF (Below.refl _ _) ?aS ?aL ?_
                  (case aR => repeat (first | exact (Kd.R_reads' HO160.out).2.2 | (with_reducible refine Kd.C_alloc ?_ _) | (with_reducible refine Kd.C_drewN ?_ _) | (with_reducible refine Kd.C_drew ?_)))
                  (case aF => exact (fun k_ hk => ⟨Kd.fresh' (Kd.R_lt (by (with_reducible repeat (first | apply Kd.R_alloc | apply Kd.R_drewN | apply Kd.R_drew)); exact HO_3.out)) k_ hk, Kd.fresh' (Kd.R_lt (by (with_reducible repeat (first | apply Kd.R_alloc | apply Kd.R_drewN | apply Kd.R_drew)); exact HO_4.out)) k_ hk, Kd.fresh' (Kd.R_lt (by (with_reducible repeat (first | apply Kd.R_alloc | apply Kd.R_drewN | apply Kd.R_drew)); exact HO160.out)) k_ hk⟩))
                  (case aO => exact (by (with_reducible repeat (first | apply Kd.R_alloc | apply Kd.R_drewN | apply Kd.R_drew)); exact Kd.R_mono HO156.out (fun _ hk => ⟨hk.2.1, ⟨hk.2.2, hk.1⟩⟩)))
                  (case aS => exact (keep_size (w := w) (g := g) (row := none) (by repeat (first | (with_reducible first | exact HK.out | apply KeepBut.set_ | apply keep_drewN | apply keep_drew | apply keep_alloc) | exact HK.out))))
                  (case aL => have := LMc18.out; omega)
                  intro v162 w31 ho hb hg hat
                  have HS0_ := cell_grown hg (hHeld.1) (by first | (rw [add_block]; exact (fun e_ => by have h_ := HO156.out.1 _ e_.symm; first | exact h_ rfl | exact h_.1 rfl | exact h_.2 rfl | exact h_.1.1 rfl | exact h_.1.2 rfl | exact h_.2.1 rfl | exact h_.2.2 rfl | exact h_.1.1.1 rfl | exact h_.1.1.2 rfl | exact h_.1.2.1 rfl | exact h_.1.2.2 rfl | exact h_.2.1.1 rfl | exact h_.2.1.2 rfl | exact h_.2.2.1 rfl | exact h_.2.2.2 rfl | exact h_.1.1.1.2 rfl | exact h_.1.1.1.1 rfl)) | (show some (Addr.add _ _).block ≠ _; rw [add_block]; exact (fun e_ => by have h_ := HO156.out.1 _ e_.symm; first | exact h_ rfl | exact h_.1 rfl | exact h_.2 rfl | exact h_.1.1 rfl | exact h_.1.2 rfl | exact h_.2.1 rfl | exact h_.2.2 rfl | exact h_.1.1.1 rfl | exact h_.1.1.2 rfl | exact h_.1.2.1 rfl | exact h_.1.2.2 rfl | exact h_.2.1.1 rfl | exact h_.2.1.2 rfl | exact h_.2.2.1 rfl | exact h_.2.2.2 rfl | exact h_.1.1.1.2 rfl | exact h_.1.1.1.1 rfl)) | exact (fun e_ => by have h_ := HO156.out.1 _ e_.symm; first | exact h_ rfl | exact h_.1 rfl | exact h_.2 rfl | exact h_.1.1 rfl | exact h_.1.2 rfl | exact h_.2.1 rfl | exact h_.2.2 rfl | exact h_.1.1.1 rfl | exact h_.1.1.2 rfl | exact h_.1.2.1 rfl | exact h_.1.2.2 rfl | exact h_.2.1.1 rfl | exact h_.2.1.2 rfl | exact h_.2.2.1 rfl | exact h_.2.2.2 rfl | exact h_.1.1.1.2 rfl | exact h_.1.1.1.1 rfl))
                  have HS1_ := cell_grown hg (hHeld.2.1) (by first | (rw [add_block]; exact (fun e_ => by have h_ := HO156.out.1 _ e_.symm; first | exact h_ rfl | exact h_.1 rfl | exact h_.2 rfl | exact h_.1.1 rfl | exact h_.1.2 rfl | exact h_.2.1 rfl | exact h_.2.2 rfl | exact h_.1.1.1 rfl | exact h_.1.1.2 rfl | exact h_.1.2.1 rfl | exact h_.1.2.2 rfl | exact h_.2.1.1 rfl | exact h_.2.1.2 rfl | exact h_.2.2.1 rfl | exact h_.2.2.2 rfl | exact h_.1.1.1.2 rfl | exact h_.1.1.1.1 rfl)) | (show some (Addr.add _ _).block ≠ _; rw [add_block]; exact (fun e_ => by have h_ := HO156.out.1 _ e_.symm; first | exact h_ rfl | exact h_.1 rfl | exact h_.2 rfl | exact h_.1.1 rfl | exact h_.1.2 rfl | exact h_.2.1 rfl | exact h_.2.2 rfl | exact h_.1.1.1 rfl | exact h_.1.1.2 rfl | exact h_.1.2.1 rfl | exact h_.1.2.2 rfl | exact h_.2.1.1 rfl | exact h_.2.1.2 rfl | exact h_.2.2.1 rfl | exact h_.2.2.2 rfl | exact h_.1.1.1.2 rfl | exact h_.1.1.1.1 rfl)) | exact (fun e_ => by have h_ := HO156.out.1 _ e_.symm; first | exact h_ rfl | exact h_.1 rfl | exact h_.2 rfl | exact h_.1.1 rfl | exact h_.1.2 rfl | exact h_.2.1 rfl | exact h_.2.2 rfl | exact h_.1.1.1 rfl | exact h_.1.1.2 rfl | exact h_.1.2.1 rfl | exact h_.1.2.2 rfl | exact h_.2.1.1 rfl | exact h_.2.1.2 rfl | exact h_.2.2.1 rfl | exact h_.2.2.2 rfl | exact h_.1.1.1.2 rfl | exact h_.1.1.1.1 rfl))
                  have HS2_ := cell_grown hg (hHeld.2.2) (by first | (rw [add_block]; exact (fun e_ => by have h_ := HO156.out.1 _ e_.symm; first | exact h_ rfl | exact h_.1 rfl | exact h_.2 rfl | exact h_.1.1 rfl | exact h_.1.2 rfl | exact h_.2.1 rfl | exact h_.2.2 rfl | exact h_.1.1.1 rfl | exact h_.1.1.2 rfl | exact h_.1.2.1 rfl | exact h_.1.2.2 rfl | exact h_.2.1.1 rfl | exact h_.2.1.2 rfl | exact h_.2.2.1 rfl | exact h_.2.2.2 rfl | exact h_.1.1.1.2 rfl | exact h_.1.1.1.1 rfl)) | (show some (Addr.add _ _).block ≠ _; rw [add_block]; exact (fun e_ => by have h_ := HO156.out.1 _ e_.symm; first | exact h_ rfl | exact h_.1 rfl | exact h_.2 rfl | exact h_.1.1 rfl | exact h_.1.2 rfl | exact h_.2.1 rfl | exact h_.2.2 rfl | exact h_.1.1.1 rfl | exact h_.1.1.2 rfl | exact h_.1.2.1 rfl | exact h_.1.2.2 rfl | exact h_.2.1.1 rfl | exact h_.2.1.2 rfl | exact h_.2.2.1 rfl | exact h_.2.2.2 rfl | exact h_.1.1.1.2 rfl | exact h_.1.1.1.1 rfl)) | exact (fun e_ => by have h_ := HO156.out.1 _ e_.symm; first | exact h_ rfl | exact h_.1 rfl | exact h_.2 rfl | exact h_.1.1 rfl | exact h_.1.2 rfl | exact h_.2.1 rfl | exact h_.2.2 rfl | exact h_.1.1.1 rfl | exact h_.1.1.2 rfl | exact h_.1.2.1 rfl | exact h_.1.2.2 rfl | exact h_.2.1.1 rfl | exact h_.2.1.2 rfl | exact h_.2.2.1 rfl | exact h_.2.2.2 rfl | exact h_.1.1.1.2 rfl | exact h_.1.1.1.1 rfl))
                  rw [← Ny161.out] at ho
                  have n0_ := Aside0.mk (Kd.R_after (ok := (fun k_ => some k_ ≠ (.slice Ao22 x4_1.length co22 : Value).ownBlock ∧ some k_ ≠ (.slice Ao32 y158.length co32 : Value).ownBlock)) (by (with_reducible repeat (first | apply Kd.R_alloc | apply Kd.R_drewN | apply Kd.R_drew)); exact Kd.R_mono HO_3.out (fun _ hk => ⟨⟨hk.2.2, hk.2.1⟩, hk.1⟩)) hg hat)
                  have n1_ := Aside0.mk (Kd.R_after (ok := (fun k_ => some k_ ≠ (.slice (some ad157) y139.length co24 : Value).ownBlock ∧ some k_ ≠ (.slice Ao32 y158.length co32 : Value).ownBlock)) (by (with_reducible repeat (first | apply Kd.R_alloc | apply Kd.R_drewN | apply Kd.R_drew)); exact Kd.R_mono HO_4.out (fun _ hk => ⟨⟨hk.2.2, hk.2.1⟩, hk.1⟩)) hg hat)
                  have n2_ := Aside0.mk (IsS190.grown (by repeat (first | (with_reducible first | exact HI0.out | apply IsS190.alloc | apply IsS190.drewN | apply IsS190.drew | apply IsS190.set_1 | apply IsS190.set_2) | exact HI0.out)) hg (IsS190.own_ne HI0.out HO156.out (by decide)))
                  have n3_ := Aside0.mk (Kd.R_after (ok := (fun k_ => some k_ ≠ (.slice (some ad157) y139.length co24 : Value).ownBlock ∧ some k_ ≠ (.slice Ao22 x4_1.length co22 : Value).ownBlock)) (by (with_reducible repeat (first | apply Kd.R_alloc | apply Kd.R_drewN | apply Kd.R_drew)); exact Kd.R_mono HO160.out (fun _ hk => ⟨⟨hk.2.1, hk.2.2⟩, hk.1⟩)) hg hat)
                  have n4_ := Aside0.mk (below_weaken (by repeat (first | (with_reducible first | exact HB.out | apply below_alloc | apply pw_below_drewN | apply below_drew1 | refine below_set ?_ (IsS190.ge HI0.out)) | exact HB.out)) HL.out hb)
                  have n5_ := Aside0.mk (KeepBut.trans (by repeat (first | (with_reducible first | exact HK.out | apply KeepBut.set_ | apply keep_drewN | apply keep_drew | apply keep_alloc) | exact HK.out)) (KeepBut.of_grown hg g) (Kd.R_base2 HO156.out))
                  have n6_ := Aside0.mk (ho)
                  clear HO_3
                  clear HO_4
                  clear HI0
                  clear HO160
                  clear HB
                  clear HK
                  clear HO156
                  have HO_3 := n0_
                  have HO_4 := n1_
                  have HI0 := n2_
                  have HO160 := n3_
                  have HB := n4_
                  have HK := n5_
                  have HO163 := n6_
                  clear n0_ n1_ n2_ n3_ n4_ n5_ n6_
                  clear ho hb hg hat
                  refine hK.out _ _ ⟨HS0_, HS1_, HS2_⟩ (fun hHeld => ?_)
                  clear hK K
                  refine norm_ (a' := ?_) ?_ ?_
                  rotate_left
                  · show Act.put _ (some 42) _ = _
                    simp only [Act.put, List.setIfInBounds_toArray, List.set_cons_zero, List.set_cons_succ, i64_w, i32_w]
                    rfl
                  refine pure_ (i := 12) (N := some 7) (v := ?_) (a' := ?_) (bmk 13 8191) rfl rfl (any_of HT_.out (by kernel_rfl)) (fun _ _ _ h => h) (Or.inl ⟨by rfl, ?_⟩) ?_ ?_
                  rotate_left
                  · intro w'
                    go_simp
                    with_reducible rfl
                  rotate_left
                  · simp only [Act.put, List.setIfInBounds_toArray, List.set_cons_zero, List.set_cons_succ, i64_w, i32_w]
                    rfl
                  refine done_ (done_of HT_.out (by kernel_rfl)) ?_
                  obtain ⟨Ao33, co33, eo33⟩ := Kd.R_slice HO163.out
                  subst eo33
                  try go_wp2_with (first | ((with_reducible refine gate_callee (f := 93) rfl ?_); refine goesL_ (some 44) rfl rfl Try.func93 (by kernel_rfl) rfl #[.slice Ao33 y161.length co33] rfl (by (try simp only [List.map_toArray, List.map_cons, List.map_nil]); first | done | rfl | (simp only [List.length_drop, List.length_take]; rfl)) ?_; (with_reducible refine (spec_OpsOk.calls k1 _ _ y161 true _ ?side1 ?side2 A19.out).mono ?_); (case side1 => repeat (first | exact (Kd.R_reads' HO163.out).2.2 | (with_reducible refine Kd.C_alloc ?_ _) | (with_reducible refine Kd.C_drewN ?_ _) | (with_reducible refine Kd.C_drew ?_))); (case side2 => exact (Kd.R_reads' HO163.out).2.1); rintro e w' ⟨rfl, ⟨nd, rfl⟩⟩; refine ⟨_, rfl, ?_⟩))
                  go_roundg k1
                  case measure => have := HK1.out; omega
                  case rel => exact ⟨(y161), (wrap64 (x6_1 + 1)), (t149), (t150), (by first | rfl | (simp; done) | (simp [*]; done) | (simp [isE0, isE1]; done)), H', ⟨by have := HK1.out; omega⟩, ⟨by (with_reducible repeat (first | apply Kd.R_alloc | apply Kd.R_drewN | apply Kd.R_drew)); exact Kd.R_mono HO_3.out (fun _ hk => hk.2)⟩, ⟨by (with_reducible repeat (first | apply Kd.R_alloc | apply Kd.R_drewN | apply Kd.R_drew)); exact Kd.R_mono HO163.out (fun _ hk => hk.1)⟩, ⟨by repeat (first | (with_reducible first | exact HI0.out | apply IsS190.alloc | apply IsS190.drewN | apply IsS190.drew | apply IsS190.set_1 | apply IsS190.set_2) | exact HI0.out)⟩, ⟨by repeat (first | (with_reducible first | exact HK.out | apply KeepBut.set_ | apply keep_drewN | apply keep_drew | apply keep_alloc) | exact HK.out)⟩, ⟨by repeat (first | (with_reducible first | exact HB.out | apply below_alloc | apply pw_below_drewN | apply below_drew1 | refine below_set ?_ (IsS190.ge HI0.out)) | exact HB.out)⟩⟩
                · replace c20 := Bool.eq_false_iff.mpr c20
                  subst c20
                  have H1 : (spec_l13Ops.l0 k1 y139 x4_1 t145 (wrap64 (x6_1 + 1)) s0_0 t149 t150) = some (r1, r2, r3) := by rw [if_neg (show ¬ (false = true) by decide)] at H; exact H
                  clear H
                  have H := H1
                  clear H1
                  have H' := Aside0.mk H
                  clear H
                  try go_wp2_with (first | ((with_reducible refine gate_callee (f := 132) rfl ?_); refine goesL_ (some 26) rfl rfl Try.func132 (by kernel_rfl) rfl #[.pointer (some ⟨g, 0, none⟩), .int .i64 4] rfl (by (try simp only [List.map_toArray, List.map_cons, List.map_nil]); first | done | rfl | (simp only [List.length_drop, List.length_take]; rfl)) ?_; (with_reducible refine (spec_l01Below.calls g s0_0 x1001_1 x1002_1 4 t148 t149 t150 w0 _ ?side1 ?side2 A12.out).mono ?_); (case side1 => repeat (first | (with_reducible first | exact HI0.out | apply IsS190.alloc | apply IsS190.drewN | apply IsS190.drew | apply IsS190.set_1 | apply IsS190.set_2) | exact HI0.out)); (case side2 => repeat (first | (with_reducible first | exact HB.out | apply below_alloc | apply pw_below_drewN | apply below_drew1 | refine below_set ?_ (IsS190.ge HI0.out)) | exact HB.out)); rintro e w34 ⟨rfl, hi, hb, hk⟩; refine ⟨_, rfl, ?_⟩; have n0_ := Aside0.mk (Kd.R_mono (Kd.R_keep (IsS190.apart (show IsS190 w0 _ g s0_0 x1001_1 x1002_1 from by repeat (first | (with_reducible first | exact HI0.out | apply IsS190.alloc | apply IsS190.drewN | apply IsS190.drew | apply IsS190.set_1 | apply IsS190.set_2) | exact HI0.out)) (by (with_reducible repeat (first | apply Kd.R_alloc | apply Kd.R_drewN | apply Kd.R_drew)); exact HO_3.out) (by decide)) hk (fun _ h => h.2)) (fun _ h => h.1)); have n1_ := Aside0.mk (Kd.R_mono (Kd.R_keep (IsS190.apart (show IsS190 w0 _ g s0_0 x1001_1 x1002_1 from by repeat (first | (with_reducible first | exact HI0.out | apply IsS190.alloc | apply IsS190.drewN | apply IsS190.drew | apply IsS190.set_1 | apply IsS190.set_2) | exact HI0.out)) (by (with_reducible repeat (first | apply Kd.R_alloc | apply Kd.R_drewN | apply Kd.R_drew)); exact HO_4.out) (by decide)) hk (fun _ h => h.2)) (fun _ h => h.1)); have n2_ := Aside0.mk (KeepBut.trans (by repeat (first | (with_reducible first | exact HK.out | apply KeepBut.set_ | apply keep_drewN | apply keep_drew | apply keep_alloc) | exact HK.out)) hk (.inl rfl)); have n3_ := Aside0.mk (hb); have n4_ := Aside0.mk (hi); clear HO_3; clear HO_4; clear HK; clear HB; clear HI0; have HO_3 := n0_; have HO_4 := n1_; have HK := n2_; have HB := n3_; have HI0 := n4_; clear n0_ n1_ n2_ n3_ n4_; (try clear hb); (try clear hb2); (try clear hk); (try clear hi); obtain ⟨Ao35, co35, eo35⟩ := Kd.R_slice HO_4.out; subst eo35))
                  have n0_ := Aside0.mk (Kd.R_drew HO_3.out)
                  have n1_ := Aside0.mk (Kd.R_drew HO_4.out)
                  have n2_ := Aside0.mk (IsS190.drew HI0.out)
                  have n3_ := Aside0.mk (keep_drew HK.out)
                  have n4_ := Aside0.mk (below_drew1 HB.out)
                  clear HO_3
                  clear HO_4
                  clear HI0
                  clear HK
                  clear HB
                  have HO_3 := n0_
                  have HO_4 := n1_
                  have HI0 := n2_
                  have HK := n3_
                  have HB := n4_
                  clear n0_ n1_ n2_ n3_ n4_
                  obtain ⟨Ao37, co37, eo37⟩ := Kd.R_slice HO_3.out
                  (first | subst eo37 | (injection eo37 with f1_ f2_ f3_; have f4_ := f1_.symm; have f5_ := f3_.symm; clear f1_ f2_ f3_; subst f4_; subst f5_))
                  have p157 : 0 ≤ ((ji15) : Int) := oa
                  have q157 : (ji15) < (y139.length : Int) := oa
                  obtain ⟨ad157, e157, hx157_0, hx157_1, hx157_2⟩ := at_T128 (Kd.R_reads' HO_3.out).2.2 (ji15) p157 q157
                  cases e157
                  replace p157 := eq_true p157
                  replace q157 := eq_true q157
                  refine start_ (n := 13) (S := fun w' => w'.cell? (ad157.add (((ji15)).toNat * 3)) = some (.string ((rd_T128 y139 (ji15)).f0)) ∧ w'.cell? ⟨(ad157.add (((ji15)).toNat * 3)).block, (ad157.add (((ji15)).toNat * 3)).off + 1, none⟩ = some (.int .i64 ((rd_T128 y139 (ji15)).f1)) ∧ w'.cell? ⟨(ad157.add (((ji15)).toNat * 3)).block, (ad157.add (((ji15)).toNat * 3)).off + 2, none⟩ = some (.bool ((rd_T128 y139 (ji15)).f2))) (ds := []) #[false, false, false, false, false, false, false, false, false, false, false, false, false] (by kernel_rfl) rfl rfl ⟨hx157_0, hx157_1, hx157_2⟩ (fun hHeld => ?_); refine with_tabW spec_l13Ops.tab7 spec_l13Ops.bits7 (fun HT_ HW_ => ?_)
                  generalize w34.drew = w36 at HO_3 HO_4 HI0 HK HB hx157_0 hx157_1 hx157_2 hHeld ⊢
                  refine pure_ (i := 1) (N := some 32) (v := ?_) (a' := ?_) (bmk 13 2) rfl rfl (any_of HT_.out (by kernel_rfl)) (fun _ _ _ h => h) (Or.inl ⟨by rfl, ?_⟩) ?_ ?_
                  rotate_left
                  · intro w'
                    go_simp
                    with_reducible rfl
                  rotate_left
                  · simp only [Act.put, List.setIfInBounds_toArray, List.set_cons_zero, List.set_cons_succ, i64_w, i32_w]
                    rfl
                  refine pure_ (i := 3) (N := some 34) (v := ?_) (a' := ?_) (bmk 13 10) rfl rfl (any_of HT_.out (by kernel_rfl)) (fun _ _ _ h => h) (Or.inl ⟨by rfl, ?_⟩) ?_ ?_
                  rotate_left
                  · intro w'
                    go_simp
                    with_reducible rfl
                  rotate_left
                  · simp only [Act.put, List.setIfInBounds_toArray, List.set_cons_zero, List.set_cons_succ, i64_w, i32_w]
                    rfl
                  refine pure_ (i := 4) (N := some 35) (v := ?_) (a' := ?_) (bmk 13 26) rfl rfl (any_of HT_.out (by kernel_rfl)) (fun _ _ _ h => h) (Or.inl ⟨by rfl, ?_⟩) ?_ ?_
                  rotate_left
                  · intro w'
                    go_simp
                    with_reducible rfl
                  rotate_left
                  · simp only [Act.put, List.setIfInBounds_toArray, List.set_cons_zero, List.set_cons_succ, i64_w, i32_w]
                    rfl
                  refine pure_ (i := 5) (N := some 36) (v := ?_) (a' := ?_) (bmk 13 58) rfl rfl (any_of HT_.out (by kernel_rfl)) (fun _ _ _ h => h) (Or.inl ⟨by rfl, ?_⟩) ?_ ?_
                  rotate_left
                  · intro w'
                    go_simp
                    with_reducible rfl
                  rotate_left
                  · simp only [Act.put, List.setIfInBounds_toArray, List.set_cons_zero, List.set_cons_succ, i64_w, i32_w]
                    rfl
                  refine pure_ (i := 6) (N := some 37) (v := ?_) (a' := ?_) (bmk 13 122) rfl rfl (any_of HT_.out (by kernel_rfl)) (fun _ _ _ h => h) (Or.inl ⟨by rfl, ?_⟩) ?_ ?_
                  rotate_left
                  · intro w'
                    go_simp
                    with_reducible rfl
                  rotate_left
                  · simp only [Act.put, List.setIfInBounds_toArray, List.set_cons_zero, List.set_cons_succ, i64_w, i32_w]
                    rfl
                  refine pure_ (i := 7) (N := some 38) (v := ?_) (a' := ?_) (bmk 13 250) rfl rfl (any_of HT_.out (by kernel_rfl)) (fun _ _ _ h => h) (Or.inl ⟨by rfl, ?_⟩) ?_ ?_
                  rotate_left
                  · intro w'
                    go_simp
                    with_reducible rfl
                  rotate_left
                  · simp only [Act.put, List.setIfInBounds_toArray, List.set_cons_zero, List.set_cons_succ, i64_w, i32_w]
                    rfl
                  refine pure_ (i := 8) (N := some 39) (v := ?_) (a' := ?_) (bmk 13 506) rfl rfl (any_of HT_.out (by kernel_rfl)) (fun _ _ _ h => h) (Or.inl ⟨by rfl, ?_⟩) ?_ ?_
                  rotate_left
                  · intro w'
                    go_simp
                    with_reducible rfl
                  rotate_left
                  · simp only [Act.put, List.setIfInBounds_toArray, List.set_cons_zero, List.set_cons_succ, i64_w, i32_w]
                    rfl
                  refine take_ (i := 9) (N := some 40) (v := ?_) (a' := ?_) (bmk 13 1018) rfl rfl (take_ofW HT_.out HW_.out (by kernel_rfl)) (fun _ _ _ h => h) (Or.inl ⟨by rfl, ?_⟩) hHeld ?_ ?_
                  rotate_left
                  · rintro w' ⟨s0, s1, s2⟩
                    go_simp
                    with_reducible rfl
                  rotate_left
                  · simp only [Act.put, List.setIfInBounds_toArray, List.set_cons_zero, List.set_cons_succ, i64_w, i32_w]
                    rfl
                  refine join_ (σ := Value × Value × Value) 2 #[true, true, true, true, true, true, true, true, true, true, true, false, false] (fun s_ => [(31, s_.1), (33, s_.2.1), (41, s_.2.2)]) (fun s_ w' => (w'.cell? (ad157.add (((ji15)).toNat * 3)) = some (.string ((rd_T128 y139 (ji15)).f0)) ∧ w'.cell? ⟨(ad157.add (((ji15)).toNat * 3)).block, (ad157.add (((ji15)).toNat * 3)).off + 1, none⟩ = some (.int .i64 ((rd_T128 y139 (ji15)).f1)) ∧ w'.cell? ⟨(ad157.add (((ji15)).toNat * 3)).block, (ad157.add (((ji15)).toNat * 3)).off + 2, none⟩ = some (.bool ((rd_T128 y139 (ji15)).f2))) ∧ (Kd.R k128 128 w' w.heap.size (fun k_ => some k_ ≠ (s_.2.2 : Value).ownBlock ∧ some k_ ≠ (.slice (some ad157) y139.length co37 : Value).ownBlock ∧ some k_ ≠ (.slice Ao35 x4_1.length co35 : Value).ownBlock) s_.2.1 y154) ∧ (Kd.R k128 128 w' w.heap.size (fun k_ => some k_ ≠ (s_.2.1 : Value).ownBlock ∧ some k_ ≠ (.slice (some ad157) y139.length co37 : Value).ownBlock ∧ some k_ ≠ (.slice Ao35 x4_1.length co35 : Value).ownBlock) s_.2.2 y158) ∧ (Kd.R k128 128 w' w.heap.size (fun k_ => some k_ ≠ (s_.2.1 : Value).ownBlock ∧ some k_ ≠ (s_.2.2 : Value).ownBlock ∧ some k_ ≠ (.slice Ao35 x4_1.length co35 : Value).ownBlock) (.slice (some ad157) y139.length co37) y139) ∧ (Kd.R k128 128 w' w.heap.size (fun k_ => some k_ ≠ (s_.2.1 : Value).ownBlock ∧ some k_ ≠ (s_.2.2 : Value).ownBlock ∧ some k_ ≠ (.slice (some ad157) y139.length co37 : Value).ownBlock) (.slice Ao35 x4_1.length co35) x4_1) ∧ (IsS190 w0 w' g s0_0 t149 t150) ∧ (KeepBut w w' g none) ∧ (Below w0.heap.size w0 w')) ?_ ?_
                  rotate_left
                  · intro hCont
                    refine two_ (i := 0) (j := 10) (Ni := some 31) (Nj := some 41) #[true, true, false, true, true, true, true, true, true, true, false, false, false] #[false, true, false, true, true, true, true, true, true, true, true, false, false] rfl rfl rfl rfl (two_of HT_.out (by kernel_rfl)) (by decide) (by decide) (fun K hK => ?_) (fun K hK => ?_)
                    · skip
                      refine Kd.R_lit_step k128 _ 128 ?hg (N := 31) ?hd (xs := ([] : List (S128))) (inner := []) (ok := fun _ => True) (okp := fun _ => True) ?hr ?hp (fun _ hk => hk) trivial (Below.refl _ _) (Nat.le_refl _) (by simp) ?_; (case hd => rfl); (case hg => rfl); (case hr => first | (go_simp; done) | (go_simp; rfl)); (case hp => exact (Reps.none _ _))
                      intro v152 w38 ho39 hb hg_ hnew_
                      have HS0_ := (hb.cell (World.block_lt_of_cell? _ _ (hHeld.1))).trans (hHeld.1)
                      have HS1_ := (hb.cell (World.block_lt_of_cell? _ _ (hHeld.2.1))).trans (hHeld.2.1)
                      have HS2_ := (hb.cell (World.block_lt_of_cell? _ _ (hHeld.2.2))).trans (hHeld.2.2)
                      clear hg_ hnew_
                      (first | rw [← Ny151.out] at ho39 | (simp only [Int.reduceToNat] at ho39; rw [← Ny151.out] at ho39))
                      have n0_ := Aside0.mk (Kd.R_elder' (by (with_reducible repeat (first | apply Kd.R_alloc | apply Kd.R_drewN | apply Kd.R_drew)); exact HO_3.out) (Kd.R_base ho39) hb)
                      have n1_ := Aside0.mk (Kd.R_elder' (by (with_reducible repeat (first | apply Kd.R_alloc | apply Kd.R_drewN | apply Kd.R_drew)); exact HO_4.out) (Kd.R_base ho39) hb)
                      have n2_ := Aside0.mk (Kd.R_lower (Kd.R_new' (Kd.R_new' ho39 (Kd.R_lt (by (with_reducible repeat (first | apply Kd.R_alloc | apply Kd.R_drewN | apply Kd.R_drew)); exact HO_3.out))) (Kd.R_lt (by (with_reducible repeat (first | apply Kd.R_alloc | apply Kd.R_drewN | apply Kd.R_drew)); exact HO_4.out))) (keep_size (w := w) (g := g) (row := none) (by repeat (first | (with_reducible first | exact HK.out | apply KeepBut.set_ | apply keep_drewN | apply keep_drew | apply keep_alloc) | exact HK.out))))
                      have n3_ := Aside0.mk (IsS190.below (by repeat (first | (with_reducible first | exact HI0.out | apply IsS190.alloc | apply IsS190.drewN | apply IsS190.drew | apply IsS190.set_1 | apply IsS190.set_2) | exact HI0.out)) hb)
                      have n4_ := Aside0.mk (KeepBut.trans (by repeat (first | (with_reducible first | exact HK.out | apply KeepBut.set_ | apply keep_drewN | apply keep_drew | apply keep_alloc) | exact HK.out)) (KeepBut.of_below hb g none) (.inl rfl))
                      have n5_ := Aside0.mk (below_step (by repeat (first | (with_reducible first | exact HB.out | apply below_alloc | apply pw_below_drewN | apply below_drew1 | refine below_set ?_ (IsS190.ge HI0.out)) | exact HB.out)) hb)
                      clear HO_3
                      clear HO_4
                      clear HI0
                      clear HK
                      clear HB
                      have HO_3 := n0_
                      have HO_4 := n1_
                      have HO153 := n2_
                      have HI0 := n3_
                      have HK := n4_
                      have HB := n5_
                      clear n0_ n1_ n2_ n3_ n4_ n5_
                      clear hb ho39
                      refine hK.out _ _ ⟨HS0_, HS1_, HS2_⟩ (fun hHeld => ?_)
                      clear hK K
                      refine norm_ (a' := ?_) ?_ ?_
                      rotate_left
                      · show Act.put _ (some 31) _ = _
                        simp only [Act.put, List.setIfInBounds_toArray, List.set_cons_zero, List.set_cons_succ, i64_w, i32_w]
                        rfl
                      refine two_ (i := 2) (j := 10) (Ni := some 33) (Nj := some 41) #[true, true, true, true, true, true, true, true, true, true, false, false, false] #[true, true, false, true, true, true, true, true, true, true, true, false, false] rfl rfl rfl rfl (two_of HT_.out (by kernel_rfl)) (by decide) (by decide) (fun K hK => ?_) (fun K hK => ?_)
                      · skip
                        refine Kd.R_append_rows_step k128 w.heap.size (by rfl) (.tmp 31) (.tmp 32) 52 128 (.agg #[(.string ⟨#[]⟩), (.int .i64 0), (.bool false)]) 32 rfl Try.underlying52 info128 rfl (by decide) (by omega) v152 y151 x4_1 _ _ _ (fun k_ => some k_ ≠ (.slice (some ad157) y139.length co37 : Value).ownBlock ∧ some k_ ≠ (.slice Ao35 x4_1.length co35 : Value).ownBlock) (fun _ => False) rfl rfl ?aO ?aR (fun _ _ h => h) (fun _ h => h.elim) ?aF (Below.refl _ _) ?aS ?aL ?_
                        (case aR => repeat (first | exact (Kd.R_reads' HO_4.out).2.2 | (with_reducible refine Kd.C_alloc ?_ _) | (with_reducible refine Kd.C_drewN ?_ _) | (with_reducible refine Kd.C_drew ?_)))
                        (case aF => exact (fun k_ hk => ⟨Kd.fresh' (Kd.R_lt (by (with_reducible repeat (first | apply Kd.R_alloc | apply Kd.R_drewN | apply Kd.R_drew)); exact HO_3.out)) k_ hk, Kd.fresh' (Kd.R_lt (by (with_reducible repeat (first | apply Kd.R_alloc | apply Kd.R_drewN | apply Kd.R_drew)); exact HO_4.out)) k_ hk⟩))
                        (case aO => exact (by (with_reducible repeat (first | apply Kd.R_alloc | apply Kd.R_drewN | apply Kd.R_drew)); exact Kd.R_mono HO153.out (fun _ hk => ⟨hk.1.2, hk.2⟩)))
                        (case aS => exact (keep_size (w := w) (g := g) (row := none) (by repeat (first | (with_reducible first | exact HK.out | apply KeepBut.set_ | apply keep_drewN | apply keep_drew | apply keep_alloc) | exact HK.out))))
                        (case aL => have := LMc14.out; omega)
                        intro v155 w40 ho hb hg hat
                        have HS0_ := cell_grown hg (hHeld.1) (by first | (rw [add_block]; exact (fun e_ => by have h_ := HO153.out.1 _ e_.symm; first | exact h_ rfl | exact h_.1 rfl | exact h_.2 rfl | exact h_.1.1 rfl | exact h_.1.2 rfl | exact h_.2.1 rfl | exact h_.2.2 rfl | exact h_.1.1.1 rfl | exact h_.1.1.2 rfl | exact h_.1.2.1 rfl | exact h_.1.2.2 rfl | exact h_.2.1.1 rfl | exact h_.2.1.2 rfl | exact h_.2.2.1 rfl | exact h_.2.2.2 rfl | exact h_.1.1.1.2 rfl | exact h_.1.1.1.1 rfl)) | (show some (Addr.add _ _).block ≠ _; rw [add_block]; exact (fun e_ => by have h_ := HO153.out.1 _ e_.symm; first | exact h_ rfl | exact h_.1 rfl | exact h_.2 rfl | exact h_.1.1 rfl | exact h_.1.2 rfl | exact h_.2.1 rfl | exact h_.2.2 rfl | exact h_.1.1.1 rfl | exact h_.1.1.2 rfl | exact h_.1.2.1 rfl | exact h_.1.2.2 rfl | exact h_.2.1.1 rfl | exact h_.2.1.2 rfl | exact h_.2.2.1 rfl | exact h_.2.2.2 rfl | exact h_.1.1.1.2 rfl | exact h_.1.1.1.1 rfl)) | exact (fun e_ => by have h_ := HO153.out.1 _ e_.symm; first | exact h_ rfl | exact h_.1 rfl | exact h_.2 rfl | exact h_.1.1 rfl | exact h_.1.2 rfl | exact h_.2.1 rfl | exact h_.2.2 rfl | exact h_.1.1.1 rfl | exact h_.1.1.2 rfl | exact h_.1.2.1 rfl | exact h_.1.2.2 rfl | exact h_.2.1.1 rfl | exact h_.2.1.2 rfl | exact h_.2.2.1 rfl | exact h_.2.2.2 rfl | exact h_.1.1.1.2 rfl | exact h_.1.1.1.1 rfl))
                        have HS1_ := cell_grown hg (hHeld.2.1) (by first | (rw [add_block]; exact (fun e_ => by have h_ := HO153.out.1 _ e_.symm; first | exact h_ rfl | exact h_.1 rfl | exact h_.2 rfl | exact h_.1.1 rfl | exact h_.1.2 rfl | exact h_.2.1 rfl | exact h_.2.2 rfl | exact h_.1.1.1 rfl | exact h_.1.1.2 rfl | exact h_.1.2.1 rfl | exact h_.1.2.2 rfl | exact h_.2.1.1 rfl | exact h_.2.1.2 rfl | exact h_.2.2.1 rfl | exact h_.2.2.2 rfl | exact h_.1.1.1.2 rfl | exact h_.1.1.1.1 rfl)) | (show some (Addr.add _ _).block ≠ _; rw [add_block]; exact (fun e_ => by have h_ := HO153.out.1 _ e_.symm; first | exact h_ rfl | exact h_.1 rfl | exact h_.2 rfl | exact h_.1.1 rfl | exact h_.1.2 rfl | exact h_.2.1 rfl | exact h_.2.2 rfl | exact h_.1.1.1 rfl | exact h_.1.1.2 rfl | exact h_.1.2.1 rfl | exact h_.1.2.2 rfl | exact h_.2.1.1 rfl | exact h_.2.1.2 rfl | exact h_.2.2.1 rfl | exact h_.2.2.2 rfl | exact h_.1.1.1.2 rfl | exact h_.1.1.1.1 rfl)) | exact (fun e_ => by have h_ := HO153.out.1 _ e_.symm; first | exact h_ rfl | exact h_.1 rfl | exact h_.2 rfl | exact h_.1.1 rfl | exact h_.1.2 rfl | exact h_.2.1 rfl | exact h_.2.2 rfl | exact h_.1.1.1 rfl | exact h_.1.1.2 rfl | exact h_.1.2.1 rfl | exact h_.1.2.2 rfl | exact h_.2.1.1 rfl | exact h_.2.1.2 rfl | exact h_.2.2.1 rfl | exact h_.2.2.2 rfl | exact h_.1.1.1.2 rfl | exact h_.1.1.1.1 rfl))
                        have HS2_ := cell_grown hg (hHeld.2.2) (by first | (rw [add_block]; exact (fun e_ => by have h_ := HO153.out.1 _ e_.symm; first | exact h_ rfl | exact h_.1 rfl | exact h_.2 rfl | exact h_.1.1 rfl | exact h_.1.2 rfl | exact h_.2.1 rfl | exact h_.2.2 rfl | exact h_.1.1.1 rfl | exact h_.1.1.2 rfl | exact h_.1.2.1 rfl | exact h_.1.2.2 rfl | exact h_.2.1.1 rfl | exact h_.2.1.2 rfl | exact h_.2.2.1 rfl | exact h_.2.2.2 rfl | exact h_.1.1.1.2 rfl | exact h_.1.1.1.1 rfl)) | (show some (Addr.add _ _).block ≠ _; rw [add_block]; exact (fun e_ => by have h_ := HO153.out.1 _ e_.symm; first | exact h_ rfl | exact h_.1 rfl | exact h_.2 rfl | exact h_.1.1 rfl | exact h_.1.2 rfl | exact h_.2.1 rfl | exact h_.2.2 rfl | exact h_.1.1.1 rfl | exact h_.1.1.2 rfl | exact h_.1.2.1 rfl | exact h_.1.2.2 rfl | exact h_.2.1.1 rfl | exact h_.2.1.2 rfl | exact h_.2.2.1 rfl | exact h_.2.2.2 rfl | exact h_.1.1.1.2 rfl | exact h_.1.1.1.1 rfl)) | exact (fun e_ => by have h_ := HO153.out.1 _ e_.symm; first | exact h_ rfl | exact h_.1 rfl | exact h_.2 rfl | exact h_.1.1 rfl | exact h_.1.2 rfl | exact h_.2.1 rfl | exact h_.2.2 rfl | exact h_.1.1.1 rfl | exact h_.1.1.2 rfl | exact h_.1.2.1 rfl | exact h_.1.2.2 rfl | exact h_.2.1.1 rfl | exact h_.2.1.2 rfl | exact h_.2.2.1 rfl | exact h_.2.2.2 rfl | exact h_.1.1.1.2 rfl | exact h_.1.1.1.1 rfl))
                        rw [← Ny154.out] at ho
                        have n0_ := Aside0.mk (Kd.R_after (ok := (fun k_ => some k_ ≠ (.slice Ao35 x4_1.length co35 : Value).ownBlock)) (by (with_reducible repeat (first | apply Kd.R_alloc | apply Kd.R_drewN | apply Kd.R_drew)); exact HO_3.out) hg hat)
                        have n1_ := Aside0.mk (Kd.R_after (ok := (fun k_ => some k_ ≠ (.slice (some ad157) y139.length co37 : Value).ownBlock)) (by (with_reducible repeat (first | apply Kd.R_alloc | apply Kd.R_drewN | apply Kd.R_drew)); exact HO_4.out) hg hat)
                        have n2_ := Aside0.mk (IsS190.grown (by repeat (first | (with_reducible first | exact HI0.out | apply IsS190.alloc | apply IsS190.drewN | apply IsS190.drew | apply IsS190.set_1 | apply IsS190.set_2) | exact HI0.out)) hg (IsS190.own_ne HI0.out HO153.out (by decide)))
                        have n3_ := Aside0.mk (below_weaken (by repeat (first | (with_reducible first | exact HB.out | apply below_alloc | apply pw_below_drewN | apply below_drew1 | refine below_set ?_ (IsS190.ge HI0.out)) | exact HB.out)) HL.out hb)
                        have n4_ := Aside0.mk (KeepBut.trans (by repeat (first | (with_reducible first | exact HK.out | apply KeepBut.set_ | apply keep_drewN | apply keep_drew | apply keep_alloc) | exact HK.out)) (KeepBut.of_grown hg g) (Kd.R_base2 HO153.out))
                        have n5_ := Aside0.mk (ho)
                        clear HO_3
                        clear HO_4
                        clear HI0
                        clear HB
                        clear HK
                        clear HO153
                        have HO_3 := n0_
                        have HO_4 := n1_
                        have HI0 := n2_
                        have HB := n3_
                        have HK := n4_
                        have HO156 := n5_
                        clear n0_ n1_ n2_ n3_ n4_ n5_
                        clear ho hb hg hat
                        refine hK.out _ _ ⟨HS0_, HS1_, HS2_⟩ (fun hHeld => ?_)
                        clear hK K
                        refine norm_ (a' := ?_) ?_ ?_
                        rotate_left
                        · show Act.put _ (some 33) _ = _
                          simp only [Act.put, List.setIfInBounds_toArray, List.set_cons_zero, List.set_cons_succ, i64_w, i32_w]
                          rfl
                        refine one_ (i := 10) (N := some 41) #[true, true, true, true, true, true, true, true, true, true, true, false, false] rfl rfl (one_of HT_.out (by kernel_rfl)) (by decide) (fun K hK => ?_)
                        refine Kd.R_lit_step k128 _ 128 ?hg (N := 41) ?hd (xs := ([(⟨(rd_T128 y139 (ji15)).f0, (rd_T128 y139 (ji15)).f1, (rd_T128 y139 (ji15)).f2⟩ : S128)] : List (S128))) (inner := [.string ((rd_T128 y139 (ji15)).f0), .int .i64 ((rd_T128 y139 (ji15)).f1), .bool ((rd_T128 y139 (ji15)).f2)]) (ok := fun _ => True) (okp := fun _ => True) ?hr ?hp (fun _ hk => hk) trivial (Below.refl _ _) (Nat.le_refl _) (by simp) ?_; (case hd => rfl); (case hg => rfl); (case hr => first | (go_simp; done) | (go_simp; rfl)); (case hp => exact (Reps.c3 (show Kd.M k128 _ _ _ (⟨(rd_T128 y139 (ji15)).f0, (rd_T128 y139 (ji15)).f1, (rd_T128 y139 (ji15)).f2⟩ : S128) [.string ((rd_T128 y139 (ji15)).f0), .int .i64 ((rd_T128 y139 (ji15)).f1), .bool ((rd_T128 y139 (ji15)).f2)] from (k128_mkM _ _ _ (⟨(rd_T128 y139 (ji15)).f0, (rd_T128 y139 (ji15)).f1, (rd_T128 y139 (ji15)).f2⟩ : S128) )) (Reps.none _ _)))
                        intro v159 w41 ho42 hb hg_ hnew_
                        have HS0_ := (hb.cell (World.block_lt_of_cell? _ _ (hHeld.1))).trans (hHeld.1)
                        have HS1_ := (hb.cell (World.block_lt_of_cell? _ _ (hHeld.2.1))).trans (hHeld.2.1)
                        have HS2_ := (hb.cell (World.block_lt_of_cell? _ _ (hHeld.2.2))).trans (hHeld.2.2)
                        clear hg_ hnew_
                        (first | rw [← Ny158.out] at ho42 | (simp only [Int.reduceToNat] at ho42; rw [← Ny158.out] at ho42))
                        have n0_ := Aside0.mk (Kd.R_elder' (by (with_reducible repeat (first | apply Kd.R_alloc | apply Kd.R_drewN | apply Kd.R_drew)); exact HO_3.out) (Kd.R_base ho42) hb)
                        have n1_ := Aside0.mk (Kd.R_elder' (by (with_reducible repeat (first | apply Kd.R_alloc | apply Kd.R_drewN | apply Kd.R_drew)); exact HO_4.out) (Kd.R_base ho42) hb)
                        have n2_ := Aside0.mk (Kd.R_elder' (by (with_reducible repeat (first | apply Kd.R_alloc | apply Kd.R_drewN | apply Kd.R_drew)); exact HO156.out) (Kd.R_base ho42) hb)
                        have n3_ := Aside0.mk (Kd.R_lower (Kd.R_new' (Kd.R_new' (Kd.R_new' ho42 (Kd.R_lt (by (with_reducible repeat (first | apply Kd.R_alloc | apply Kd.R_drewN | apply Kd.R_drew)); exact HO_3.out))) (Kd.R_lt (by (with_reducible repeat (first | apply Kd.R_alloc | apply Kd.R_drewN | apply Kd.R_drew)); exact HO_4.out))) (Kd.R_lt (by (with_reducible repeat (first | apply Kd.R_alloc | apply Kd.R_drewN | apply Kd.R_drew)); exact HO156.out))) (keep_size (w := w) (g := g) (row := none) (by repeat (first | (with_reducible first | exact HK.out | apply KeepBut.set_ | apply keep_drewN | apply keep_drew | apply keep_alloc) | exact HK.out))))
                        have n4_ := Aside0.mk (IsS190.below (by repeat (first | (with_reducible first | exact HI0.out | apply IsS190.alloc | apply IsS190.drewN | apply IsS190.drew | apply IsS190.set_1 | apply IsS190.set_2) | exact HI0.out)) hb)
                        have n5_ := Aside0.mk (KeepBut.trans (by repeat (first | (with_reducible first | exact HK.out | apply KeepBut.set_ | apply keep_drewN | apply keep_drew | apply keep_alloc) | exact HK.out)) (KeepBut.of_below hb g none) (.inl rfl))
                        have n6_ := Aside0.mk (below_step (by repeat (first | (with_reducible first | exact HB.out | apply below_alloc | apply pw_below_drewN | apply below_drew1 | refine below_set ?_ (IsS190.ge HI0.out)) | exact HB.out)) hb)
                        clear HO_3
                        clear HO_4
                        clear HO156
                        clear HI0
                        clear HK
                        clear HB
                        have HO_3 := n0_
                        have HO_4 := n1_
                        have HO156 := n2_
                        have HO160 := n3_
                        have HI0 := n4_
                        have HK := n5_
                        have HB := n6_
                        clear n0_ n1_ n2_ n3_ n4_ n5_ n6_
                        clear hb ho42
                        refine hK.out _ _ ⟨HS0_, HS1_, HS2_⟩ (fun hHeld => ?_)
                        clear hK K
                        refine norm_ (a' := ?_) ?_ ?_
                        rotate_left
                        · show Act.put _ (some 41) _ = _
                          simp only [Act.put, List.setIfInBounds_toArray, List.set_cons_zero, List.set_cons_succ, i64_w, i32_w]
                          rfl
                        exact norm_ (by simp only [putAll, Act.put, List.setIfInBounds_toArray, List.set_cons_zero, List.set_cons_succ]) (hCont (v152, v155, v159) _ ⟨hHeld, (by (with_reducible repeat (first | apply Kd.R_alloc | apply Kd.R_drewN | apply Kd.R_drew)); exact Kd.R_mono HO156.out (fun _ hk => ⟨hk.2, ⟨hk.1.1, hk.1.2⟩⟩)), (by (with_reducible repeat (first | apply Kd.R_alloc | apply Kd.R_drewN | apply Kd.R_drew)); exact Kd.R_mono HO160.out (fun _ hk => ⟨hk.2, ⟨hk.1.1.2, hk.1.2⟩⟩)), (by (with_reducible repeat (first | apply Kd.R_alloc | apply Kd.R_drewN | apply Kd.R_drew)); exact Kd.R_mono HO_3.out (fun _ hk => ⟨hk.1.2, ⟨hk.2, hk.1.1⟩⟩)), (by (with_reducible repeat (first | apply Kd.R_alloc | apply Kd.R_drewN | apply Kd.R_drew)); exact Kd.R_mono HO_4.out (fun _ hk => ⟨hk.1.2, ⟨hk.2, hk.1.1⟩⟩)), (by repeat (first | (with_reducible first | exact HI0.out | apply IsS190.alloc | apply IsS190.drewN | apply IsS190.drew | apply IsS190.set_1 | apply IsS190.set_2) | exact HI0.out)), (by repeat (first | (with_reducible first | exact HK.out | apply KeepBut.set_ | apply keep_drewN | apply keep_drew | apply keep_alloc) | exact HK.out)), (by repeat (first | (with_reducible first | exact HB.out | apply below_alloc | apply pw_below_drewN | apply below_drew1 | refine below_set ?_ (IsS190.ge HI0.out)) | exact HB.out))⟩)
                      · skip
                        refine Kd.R_lit_step k128 _ 128 ?hg (N := 41) ?hd (xs := ([(⟨(rd_T128 y139 (ji15)).f0, (rd_T128 y139 (ji15)).f1, (rd_T128 y139 (ji15)).f2⟩ : S128)] : List (S128))) (inner := [.string ((rd_T128 y139 (ji15)).f0), .int .i64 ((rd_T128 y139 (ji15)).f1), .bool ((rd_T128 y139 (ji15)).f2)]) (ok := fun _ => True) (okp := fun _ => True) ?hr ?hp (fun _ hk => hk) trivial (Below.refl _ _) (Nat.le_refl _) (by simp) ?_; (case hd => rfl); (case hg => rfl); (case hr => first | (go_simp; done) | (go_simp; rfl)); (case hp => exact (Reps.c3 (show Kd.M k128 _ _ _ (⟨(rd_T128 y139 (ji15)).f0, (rd_T128 y139 (ji15)).f1, (rd_T128 y139 (ji15)).f2⟩ : S128) [.string ((rd_T128 y139 (ji15)).f0), .int .i64 ((rd_T128 y139 (ji15)).f1), .bool ((rd_T128 y139 (ji15)).f2)] from (k128_mkM _ _ _ (⟨(rd_T128 y139 (ji15)).f0, (rd_T128 y139 (ji15)).f1, (rd_T128 y139 (ji15)).f2⟩ : S128) )) (Reps.none _ _)))
                        intro v159 w40 ho41 hb hg_ hnew_
                        have HS0_ := (hb.cell (World.block_lt_of_cell? _ _ (hHeld.1))).trans (hHeld.1)
                        have HS1_ := (hb.cell (World.block_lt_of_cell? _ _ (hHeld.2.1))).trans (hHeld.2.1)
                        have HS2_ := (hb.cell (World.block_lt_of_cell? _ _ (hHeld.2.2))).trans (hHeld.2.2)
                        clear hg_ hnew_
                        (first | rw [← Ny158.out] at ho41 | (simp only [Int.reduceToNat] at ho41; rw [← Ny158.out] at ho41))
                        have n0_ := Aside0.mk (Kd.R_elder' (by (with_reducible repeat (first | apply Kd.R_alloc | apply Kd.R_drewN | apply Kd.R_drew)); exact HO_3.out) (Kd.R_base ho41) hb)
                        have n1_ := Aside0.mk (Kd.R_elder' (by (with_reducible repeat (first | apply Kd.R_alloc | apply Kd.R_drewN | apply Kd.R_drew)); exact HO_4.out) (Kd.R_base ho41) hb)
                        have n2_ := Aside0.mk (Kd.R_elder' (by (with_reducible repeat (first | apply Kd.R_alloc | apply Kd.R_drewN | apply Kd.R_drew)); exact HO153.out) (Kd.R_base ho41) hb)
                        have n3_ := Aside0.mk (Kd.R_lower (Kd.R_new' (Kd.R_new' (Kd.R_new' ho41 (Kd.R_lt (by (with_reducible repeat (first | apply Kd.R_alloc | apply Kd.R_drewN | apply Kd.R_drew)); exact HO_3.out))) (Kd.R_lt (by (with_reducible repeat (first | apply Kd.R_alloc | apply Kd.R_drewN | apply Kd.R_drew)); exact HO_4.out))) (Kd.R_lt (by (with_reducible repeat (first | apply Kd.R_alloc | apply Kd.R_drewN | apply Kd.R_drew)); exact HO153.out))) (keep_size (w := w) (g := g) (row := none) (by repeat (first | (with_reducible first | exact HK.out | apply KeepBut.set_ | apply keep_drewN | apply keep_drew | apply keep_alloc) | exact HK.out))))
                        have n4_ := Aside0.mk (IsS190.below (by repeat (first | (with_reducible first | exact HI0.out | apply IsS190.alloc | apply IsS190.drewN | apply IsS190.drew | apply IsS190.set_1 | apply IsS190.set_2) | exact HI0.out)) hb)
                        have n5_ := Aside0.mk (KeepBut.trans (by repeat (first | (with_reducible first | exact HK.out | apply KeepBut.set_ | apply keep_drewN | apply keep_drew | apply keep_alloc) | exact HK.out)) (KeepBut.of_below hb g none) (.inl rfl))
                        have n6_ := Aside0.mk (below_step (by repeat (first | (with_reducible first | exact HB.out | apply below_alloc | apply pw_below_drewN | apply below_drew1 | refine below_set ?_ (IsS190.ge HI0.out)) | exact HB.out)) hb)
                        clear HO_3
                        clear HO_4
                        clear HO153
                        clear HI0
                        clear HK
                        clear HB
                        have HO_3 := n0_
                        have HO_4 := n1_
                        have HO153 := n2_
                        have HO160 := n3_
                        have HI0 := n4_
                        have HK := n5_
                        have HB := n6_
                        clear n0_ n1_ n2_ n3_ n4_ n5_ n6_
                        clear hb ho41
                        refine hK.out _ _ ⟨HS0_, HS1_, HS2_⟩ (fun hHeld => ?_)
                        clear hK K
                        refine norm_ (a' := ?_) ?_ ?_
                        rotate_left
                        · show Act.put _ (some 41) _ = _
                          simp only [Act.put, List.setIfInBounds_toArray, List.set_cons_zero, List.set_cons_succ, i64_w, i32_w]
                          rfl
                        refine one_ (i := 2) (N := some 33) #[true, true, true, true, true, true, true, true, true, true, true, false, false] rfl rfl (one_of HT_.out (by kernel_rfl)) (by decide) (fun K hK => ?_)
                        refine Kd.R_append_rows_step k128 w.heap.size (by rfl) (.tmp 31) (.tmp 32) 52 128 (.agg #[(.string ⟨#[]⟩), (.int .i64 0), (.bool false)]) 32 rfl Try.underlying52 info128 rfl (by decide) (by omega) v152 y151 x4_1 _ _ _ (fun k_ => some k_ ≠ (.slice (some ad157) y139.length co37 : Value).ownBlock ∧ some k_ ≠ (.slice Ao35 x4_1.length co35 : Value).ownBlock ∧ some k_ ≠ (v159 : Value).ownBlock) (fun _ => False) rfl rfl ?aO ?aR (fun _ _ h => h) (fun _ h => h.elim) ?aF (Below.refl _ _) ?aS ?aL ?_
                        (case aR => repeat (first | exact (Kd.R_reads' HO_4.out).2.2 | (with_reducible refine Kd.C_alloc ?_ _) | (with_reducible refine Kd.C_drewN ?_ _) | (with_reducible refine Kd.C_drew ?_)))
                        (case aF => exact (fun k_ hk => ⟨Kd.fresh' (Kd.R_lt (by (with_reducible repeat (first | apply Kd.R_alloc | apply Kd.R_drewN | apply Kd.R_drew)); exact HO_3.out)) k_ hk, Kd.fresh' (Kd.R_lt (by (with_reducible repeat (first | apply Kd.R_alloc | apply Kd.R_drewN | apply Kd.R_drew)); exact HO_4.out)) k_ hk, Kd.fresh' (Kd.R_lt (by (with_reducible repeat (first | apply Kd.R_alloc | apply Kd.R_drewN | apply Kd.R_drew)); exact HO160.out)) k_ hk⟩))
                        (case aO => exact (by (with_reducible repeat (first | apply Kd.R_alloc | apply Kd.R_drewN | apply Kd.R_drew)); exact Kd.R_mono HO153.out (fun _ hk => ⟨hk.1.1.2, ⟨hk.1.2, hk.2⟩⟩)))
                        (case aS => exact (keep_size (w := w) (g := g) (row := none) (by repeat (first | (with_reducible first | exact HK.out | apply KeepBut.set_ | apply keep_drewN | apply keep_drew | apply keep_alloc) | exact HK.out))))
                        (case aL => have := LMc14.out; omega)
                        intro v155 w42 ho hb hg hat
                        have HS0_ := cell_grown hg (hHeld.1) (by first | (rw [add_block]; exact (fun e_ => by have h_ := HO153.out.1 _ e_.symm; first | exact h_ rfl | exact h_.1 rfl | exact h_.2 rfl | exact h_.1.1 rfl | exact h_.1.2 rfl | exact h_.2.1 rfl | exact h_.2.2 rfl | exact h_.1.1.1 rfl | exact h_.1.1.2 rfl | exact h_.1.2.1 rfl | exact h_.1.2.2 rfl | exact h_.2.1.1 rfl | exact h_.2.1.2 rfl | exact h_.2.2.1 rfl | exact h_.2.2.2 rfl | exact h_.1.1.1.2 rfl | exact h_.1.1.1.1 rfl)) | (show some (Addr.add _ _).block ≠ _; rw [add_block]; exact (fun e_ => by have h_ := HO153.out.1 _ e_.symm; first | exact h_ rfl | exact h_.1 rfl | exact h_.2 rfl | exact h_.1.1 rfl | exact h_.1.2 rfl | exact h_.2.1 rfl | exact h_.2.2 rfl | exact h_.1.1.1 rfl | exact h_.1.1.2 rfl | exact h_.1.2.1 rfl | exact h_.1.2.2 rfl | exact h_.2.1.1 rfl | exact h_.2.1.2 rfl | exact h_.2.2.1 rfl | exact h_.2.2.2 rfl | exact h_.1.1.1.2 rfl | exact h_.1.1.1.1 rfl)) | exact (fun e_ => by have h_ := HO153.out.1 _ e_.symm; first | exact h_ rfl | exact h_.1 rfl | exact h_.2 rfl | exact h_.1.1 rfl | exact h_.1.2 rfl | exact h_.2.1 rfl | exact h_.2.2 rfl | exact h_.1.1.1 rfl | exact h_.1.1.2 rfl | exact h_.1.2.1 rfl | exact h_.1.2.2 rfl | exact h_.2.1.1 rfl | exact h_.2.1.2 rfl | exact h_.2.2.1 rfl | exact h_.2.2.2 rfl | exact h_.1.1.1.2 rfl | exact h_.1.1.1.1 rfl))
                        have HS1_ := cell_grown hg (hHeld.2.1) (by first | (rw [add_block]; exact (fun e_ => by have h_ := HO153.out.1 _ e_.symm; first | exact h_ rfl | exact h_.1 rfl | exact h_.2 rfl | exact h_.1.1 rfl | exact h_.1.2 rfl | exact h_.2.1 rfl | exact h_.2.2 rfl | exact h_.1.1.1 rfl | exact h_.1.1.2 rfl | exact h_.1.2.1 rfl | exact h_.1.2.2 rfl | exact h_.2.1.1 rfl | exact h_.2.1.2 rfl | exact h_.2.2.1 rfl | exact h_.2.2.2 rfl | exact h_.1.1.1.2 rfl | exact h_.1.1.1.1 rfl)) | (show some (Addr.add _ _).block ≠ _; rw [add_block]; exact (fun e_ => by have h_ := HO153.out.1 _ e_.symm; first | exact h_ rfl | exact h_.1 rfl | exact h_.2 rfl | exact h_.1.1 rfl | exact h_.1.2 rfl | exact h_.2.1 rfl | exact h_.2.2 rfl | exact h_.1.1.1 rfl | exact h_.1.1.2 rfl | exact h_.1.2.1 rfl | exact h_.1.2.2 rfl | exact h_.2.1.1 rfl | exact h_.2.1.2 rfl | exact h_.2.2.1 rfl | exact h_.2.2.2 rfl | exact h_.1.1.1.2 rfl | exact h_.1.1.1.1 rfl)) | exact (fun e_ => by have h_ := HO153.out.1 _ e_.symm; first | exact h_ rfl | exact h_.1 rfl | exact h_.2 rfl | exact h_.1.1 rfl | exact h_.1.2 rfl | exact h_.2.1 rfl | exact h_.2.2 rfl | exact h_.1.1.1 rfl | exact h_.1.1.2 rfl | exact h_.1.2.1 rfl | exact h_.1.2.2 rfl | exact h_.2.1.1 rfl | exact h_.2.1.2 rfl | exact h_.2.2.1 rfl | exact h_.2.2.2 rfl | exact h_.1.1.1.2 rfl | exact h_.1.1.1.1 rfl))
                        have HS2_ := cell_grown hg (hHeld.2.2) (by first | (rw [add_block]; exact (fun e_ => by have h_ := HO153.out.1 _ e_.symm; first | exact h_ rfl | exact h_.1 rfl | exact h_.2 rfl | exact h_.1.1 rfl | exact h_.1.2 rfl | exact h_.2.1 rfl | exact h_.2.2 rfl | exact h_.1.1.1 rfl | exact h_.1.1.2 rfl | exact h_.1.2.1 rfl | exact h_.1.2.2 rfl | exact h_.2.1.1 rfl | exact h_.2.1.2 rfl | exact h_.2.2.1 rfl | exact h_.2.2.2 rfl | exact h_.1.1.1.2 rfl | exact h_.1.1.1.1 rfl)) | (show some (Addr.add _ _).block ≠ _; rw [add_block]; exact (fun e_ => by have h_ := HO153.out.1 _ e_.symm; first | exact h_ rfl | exact h_.1 rfl | exact h_.2 rfl | exact h_.1.1 rfl | exact h_.1.2 rfl | exact h_.2.1 rfl | exact h_.2.2 rfl | exact h_.1.1.1 rfl | exact h_.1.1.2 rfl | exact h_.1.2.1 rfl | exact h_.1.2.2 rfl | exact h_.2.1.1 rfl | exact h_.2.1.2 rfl | exact h_.2.2.1 rfl | exact h_.2.2.2 rfl | exact h_.1.1.1.2 rfl | exact h_.1.1.1.1 rfl)) | exact (fun e_ => by have h_ := HO153.out.1 _ e_.symm; first | exact h_ rfl | exact h_.1 rfl | exact h_.2 rfl | exact h_.1.1 rfl | exact h_.1.2 rfl | exact h_.2.1 rfl | exact h_.2.2 rfl | exact h_.1.1.1 rfl | exact h_.1.1.2 rfl | exact h_.1.2.1 rfl | exact h_.1.2.2 rfl | exact h_.2.1.1 rfl | exact h_.2.1.2 rfl | exact h_.2.2.1 rfl | exact h_.2.2.2 rfl | exact h_.1.1.1.2 rfl | exact h_.1.1.1.1 rfl))
                        rw [← Ny154.out] at ho
                        have n0_ := Aside0.mk (Kd.R_after (ok := (fun k_ => some k_ ≠ (.slice Ao35 x4_1.length co35 : Value).ownBlock ∧ some k_ ≠ (v159 : Value).ownBlock)) (by (with_reducible repeat (first | apply Kd.R_alloc | apply Kd.R_drewN | apply Kd.R_drew)); exact Kd.R_mono HO_3.out (fun _ hk => ⟨⟨hk.1.1, hk.2⟩, hk.1.2⟩)) hg hat)
                        have n1_ := Aside0.mk (Kd.R_after (ok := (fun k_ => some k_ ≠ (.slice (some ad157) y139.length co37 : Value).ownBlock ∧ some k_ ≠ (v159 : Value).ownBlock)) (by (with_reducible repeat (first | apply Kd.R_alloc | apply Kd.R_drewN | apply Kd.R_drew)); exact Kd.R_mono HO_4.out (fun _ hk => ⟨⟨hk.1.1, hk.2⟩, hk.1.2⟩)) hg hat)
                        have n2_ := Aside0.mk (IsS190.grown (by repeat (first | (with_reducible first | exact HI0.out | apply IsS190.alloc | apply IsS190.drewN | apply IsS190.drew | apply IsS190.set_1 | apply IsS190.set_2) | exact HI0.out)) hg (IsS190.own_ne HI0.out HO153.out (by decide)))
                        have n3_ := Aside0.mk (Kd.R_after (ok := (fun k_ => some k_ ≠ (.slice (some ad157) y139.length co37 : Value).ownBlock ∧ some k_ ≠ (.slice Ao35 x4_1.length co35 : Value).ownBlock)) (by (with_reducible repeat (first | apply Kd.R_alloc | apply Kd.R_drewN | apply Kd.R_drew)); exact Kd.R_mono HO160.out (fun _ hk => ⟨⟨hk.1.1.2, hk.1.2⟩, hk.2⟩)) hg hat)
                        have n4_ := Aside0.mk (below_weaken (by repeat (first | (with_reducible first | exact HB.out | apply below_alloc | apply pw_below_drewN | apply below_drew1 | refine below_set ?_ (IsS190.ge HI0.out)) | exact HB.out)) HL.out hb)
                        have n5_ := Aside0.mk (KeepBut.trans (by repeat (first | (with_reducible first | exact HK.out | apply KeepBut.set_ | apply keep_drewN | apply keep_drew | apply keep_alloc) | exact HK.out)) (KeepBut.of_grown hg g) (Kd.R_base2 HO153.out))
                        have n6_ := Aside0.mk (ho)
                        clear HO_3
                        clear HO_4
                        clear HI0
                        clear HO160
                        clear HB
                        clear HK
                        clear HO153
                        have HO_3 := n0_
                        have HO_4 := n1_
                        have HI0 := n2_
                        have HO160 := n3_
                        have HB := n4_
                        have HK := n5_
                        have HO156 := n6_
                        clear n0_ n1_ n2_ n3_ n4_ n5_ n6_
                        clear ho hb hg hat
                        refine hK.out _ _ ⟨HS0_, HS1_, HS2_⟩ (fun hHeld => ?_)
                        clear hK K
                        refine norm_ (a' := ?_) ?_ ?_
                        rotate_left
                        · show Act.put _ (some 33) _ = _
                          simp only [Act.put, List.setIfInBounds_toArray, List.set_cons_zero, List.set_cons_succ, i64_w, i32_w]
                          rfl
                        exact norm_ (by simp only [putAll, Act.put, List.setIfInBounds_toArray, List.set_cons_zero, List.set_cons_succ]) (hCont (v152, v155, v159) _ ⟨hHeld, (by (with_reducible repeat (first | apply Kd.R_alloc | apply Kd.R_drewN | apply Kd.R_drew)); exact Kd.R_mono HO156.out (fun _ hk => ⟨hk.2.2, ⟨hk.1, hk.2.1⟩⟩)), (by (with_reducible repeat (first | apply Kd.R_alloc | apply Kd.R_drewN | apply Kd.R_drew)); exact Kd.R_mono HO160.out (fun _ hk => ⟨hk.2, ⟨hk.1.1, hk.1.2⟩⟩)), (by (with_reducible repeat (first | apply Kd.R_alloc | apply Kd.R_drewN | apply Kd.R_drew)); exact Kd.R_mono HO_3.out (fun _ hk => ⟨hk.2, ⟨hk.1.2, hk.1.1⟩⟩)), (by (with_reducible repeat (first | apply Kd.R_alloc | apply Kd.R_drewN | apply Kd.R_drew)); exact Kd.R_mono HO_4.out (fun _ hk => ⟨hk.2, ⟨hk.1.2, hk.1.1⟩⟩)), (by repeat (first | (with_reducible first | exact HI0.out | apply IsS190.alloc | apply IsS190.drewN | apply IsS190.drew | apply IsS190.set_1 | apply IsS190.set_2) | exact HI0.out)), (by repeat (first | (with_reducible first | exact HK.out | apply KeepBut.set_ | apply keep_drewN | apply keep_drew | apply keep_alloc) | exact HK.out)), (by repeat (first | (with_reducible first | exact HB.out | apply below_alloc | apply pw_below_drewN | apply below_drew1 | refine below_set ?_ (IsS190.ge HI0.out)) | exact HB.out))⟩)
                    · skip
                      refine Kd.R_lit_step k128 _ 128 ?hg (N := 41) ?hd (xs := ([(⟨(rd_T128 y139 (ji15)).f0, (rd_T128 y139 (ji15)).f1, (rd_T128 y139 (ji15)).f2⟩ : S128)] : List (S128))) (inner := [.string ((rd_T128 y139 (ji15)).f0), .int .i64 ((rd_T128 y139 (ji15)).f1), .bool ((rd_T128 y139 (ji15)).f2)]) (ok := fun _ => True) (okp := fun _ => True) ?hr ?hp (fun _ hk => hk) trivial (Below.refl _ _) (Nat.le_refl _) (by simp) ?_; (case hd => rfl); (case hg => rfl); (case hr => first | (go_simp; done) | (go_simp; rfl)); (case hp => exact (Reps.c3 (show Kd.M k128 _ _ _ (⟨(rd_T128 y139 (ji15)).f0, (rd_T128 y139 (ji15)).f1, (rd_T128 y139 (ji15)).f2⟩ : S128) [.string ((rd_T128 y139 (ji15)).f0), .int .i64 ((rd_T128 y139 (ji15)).f1), .bool ((rd_T128 y139 (ji15)).f2)] from (k128_mkM _ _ _ (⟨(rd_T128 y139 (ji15)).f0, (rd_T128 y139 (ji15)).f1, (rd_T128 y139 (ji15)).f2⟩ : S128) )) (Reps.none _ _)))
                      intro v159 w38 ho39 hb hg_ hnew_
                      have HS0_ := (hb.cell (World.block_lt_of_cell? _ _ (hHeld.1))).trans (hHeld.1)
                      have HS1_ := (hb.cell (World.block_lt_of_cell? _ _ (hHeld.2.1))).trans (hHeld.2.1)
                      have HS2_ := (hb.cell (World.block_lt_of_cell? _ _ (hHeld.2.2))).trans (hHeld.2.2)
                      clear hg_ hnew_
                      (first | rw [← Ny158.out] at ho39 | (simp only [Int.reduceToNat] at ho39; rw [← Ny158.out] at ho39))
                      have n0_ := Aside0.mk (Kd.R_elder' (by (with_reducible repeat (first | apply Kd.R_alloc | apply Kd.R_drewN | apply Kd.R_drew)); exact HO_3.out) (Kd.R_base ho39) hb)
                      have n1_ := Aside0.mk (Kd.R_elder' (by (with_reducible repeat (first | apply Kd.R_alloc | apply Kd.R_drewN | apply Kd.R_drew)); exact HO_4.out) (Kd.R_base ho39) hb)
                      have n2_ := Aside0.mk (Kd.R_lower (Kd.R_new' (Kd.R_new' ho39 (Kd.R_lt (by (with_reducible repeat (first | apply Kd.R_alloc | apply Kd.R_drewN | apply Kd.R_drew)); exact HO_3.out))) (Kd.R_lt (by (with_reducible repeat (first | apply Kd.R_alloc | apply Kd.R_drewN | apply Kd.R_drew)); exact HO_4.out))) (keep_size (w := w) (g := g) (row := none) (by repeat (first | (with_reducible first | exact HK.out | apply KeepBut.set_ | apply keep_drewN | apply keep_drew | apply keep_alloc) | exact HK.out))))
                      have n3_ := Aside0.mk (IsS190.below (by repeat (first | (with_reducible first | exact HI0.out | apply IsS190.alloc | apply IsS190.drewN | apply IsS190.drew | apply IsS190.set_1 | apply IsS190.set_2) | exact HI0.out)) hb)
                      have n4_ := Aside0.mk (KeepBut.trans (by repeat (first | (with_reducible first | exact HK.out | apply KeepBut.set_ | apply keep_drewN | apply keep_drew | apply keep_alloc) | exact HK.out)) (KeepBut.of_below hb g none) (.inl rfl))
                      have n5_ := Aside0.mk (below_step (by repeat (first | (with_reducible first | exact HB.out | apply below_alloc | apply pw_below_drewN | apply below_drew1 | refine below_set ?_ (IsS190.ge HI0.out)) | exact HB.out)) hb)
                      clear HO_3
                      clear HO_4
                      clear HI0
                      clear HK
                      clear HB
                      have HO_3 := n0_
                      have HO_4 := n1_
                      have HO160 := n2_
                      have HI0 := n3_
                      have HK := n4_
                      have HB := n5_
                      clear n0_ n1_ n2_ n3_ n4_ n5_
                      clear hb ho39
                      refine hK.out _ _ ⟨HS0_, HS1_, HS2_⟩ (fun hHeld => ?_)
                      clear hK K
                      refine norm_ (a' := ?_) ?_ ?_
                      rotate_left
                      · show Act.put _ (some 41) _ = _
                        simp only [Act.put, List.setIfInBounds_toArray, List.set_cons_zero, List.set_cons_succ, i64_w, i32_w]
                        rfl
                      refine one_ (i := 0) (N := some 31) #[true, true, false, true, true, true, true, true, true, true, true, false, false] rfl rfl (one_of HT_.out (by kernel_rfl)) (by decide) (fun K hK => ?_)
                      refine Kd.R_lit_step k128 _ 128 ?hg (N := 31) ?hd (xs := ([] : List (S128))) (inner := []) (ok := fun _ => True) (okp := fun _ => True) ?hr ?hp (fun _ hk => hk) trivial (Below.refl _ _) (Nat.le_refl _) (by simp) ?_; (case hd => rfl); (case hg => rfl); (case hr => first | (go_simp; done) | (go_simp; rfl)); (case hp => exact (Reps.none _ _))
                      intro v152 w40 ho41 hb hg_ hnew_
                      have HS0_ := (hb.cell (World.block_lt_of_cell? _ _ (hHeld.1))).trans (hHeld.1)
                      have HS1_ := (hb.cell (World.block_lt_of_cell? _ _ (hHeld.2.1))).trans (hHeld.2.1)
                      have HS2_ := (hb.cell (World.block_lt_of_cell? _ _ (hHeld.2.2))).trans (hHeld.2.2)
                      clear hg_ hnew_
                      (first | rw [← Ny151.out] at ho41 | (simp only [Int.reduceToNat] at ho41; rw [← Ny151.out] at ho41))
                      have n0_ := Aside0.mk (Kd.R_elder' (by (with_reducible repeat (first | apply Kd.R_alloc | apply Kd.R_drewN | apply Kd.R_drew)); exact HO_3.out) (Kd.R_base ho41) hb)
                      have n1_ := Aside0.mk (Kd.R_elder' (by (with_reducible repeat (first | apply Kd.R_alloc | apply Kd.R_drewN | apply Kd.R_drew)); exact HO_4.out) (Kd.R_base ho41) hb)
                      have n2_ := Aside0.mk (Kd.R_elder' (by (with_reducible repeat (first | apply Kd.R_alloc | apply Kd.R_drewN | apply Kd.R_drew)); exact HO160.out) (Kd.R_base ho41) hb)
                      have n3_ := Aside0.mk (Kd.R_lower (Kd.R_new' (Kd.R_new' (Kd.R_new' ho41 (Kd.R_lt (by (with_reducible repeat (first | apply Kd.R_alloc | apply Kd.R_drewN | apply Kd.R_drew)); exact HO_3.out))) (Kd.R_lt (by (with_reducible repeat (first | apply Kd.R_alloc | apply Kd.R_drewN | apply Kd.R_drew)); exact HO_4.out))) (Kd.R_lt (by (with_reducible repeat (first | apply Kd.R_alloc | apply Kd.R_drewN | apply Kd.R_drew)); exact HO160.out))) (keep_size (w := w) (g := g) (row := none) (by repeat (first | (with_reducible first | exact HK.out | apply KeepBut.set_ | apply keep_drewN | apply keep_drew | apply keep_alloc) | exact HK.out))))
                      have n4_ := Aside0.mk (IsS190.below (by repeat (first | (with_reducible first | exact HI0.out | apply IsS190.alloc | apply IsS190.drewN | apply IsS190.drew | apply IsS190.set_1 | apply IsS190.set_2) | exact HI0.out)) hb)
                      have n5_ := Aside0.mk (KeepBut.trans (by repeat (first | (with_reducible first | exact HK.out | apply KeepBut.set_ | apply keep_drewN | apply keep_drew | apply keep_alloc) | exact HK.out)) (KeepBut.of_below hb g none) (.inl rfl))
                      have n6_ := Aside0.mk (below_step (by repeat (first | (with_reducible first | exact HB.out | apply below_alloc | apply pw_below_drewN | apply below_drew1 | refine below_set ?_ (IsS190.ge HI0.out)) | exact HB.out)) hb)
                      clear HO_3
                      clear HO_4
                      clear HO160
                      clear HI0
                      clear HK
                      clear HB
                      have HO_3 := n0_
                      have HO_4 := n1_
                      have HO160 := n2_
                      have HO153 := n3_
                      have HI0 := n4_
                      have HK := n5_
                      have HB := n6_
                      clear n0_ n1_ n2_ n3_ n4_ n5_ n6_
                      clear hb ho41
                      refine hK.out _ _ ⟨HS0_, HS1_, HS2_⟩ (fun hHeld => ?_)
                      clear hK K
                      refine norm_ (a' := ?_) ?_ ?_
                      rotate_left
                      · show Act.put _ (some 31) _ = _
                        simp only [Act.put, List.setIfInBounds_toArray, List.set_cons_zero, List.set_cons_succ, i64_w, i32_w]
                        rfl
                      refine one_ (i := 2) (N := some 33) #[true, true, true, true, true, true, true, true, true, true, true, false, false] rfl rfl (one_of HT_.out (by kernel_rfl)) (by decide) (fun K hK => ?_)
                      refine Kd.R_append_rows_step k128 w.heap.size (by rfl) (.tmp 31) (.tmp 32) 52 128 (.agg #[(.string ⟨#[]⟩), (.int .i64 0), (.bool false)]) 32 rfl Try.underlying52 info128 rfl (by decide) (by omega) v152 y151 x4_1 _ _ _ (fun k_ => some k_ ≠ (.slice (some ad157) y139.length co37 : Value).ownBlock ∧ some k_ ≠ (.slice Ao35 x4_1.length co35 : Value).ownBlock ∧ some k_ ≠ (v159 : Value).ownBlock) (fun _ => False) rfl rfl ?aO ?aR (fun _ _ h => h) (fun _ h => h.elim) ?aF (Below.refl _ _) ?aS ?aL ?_
                      (case aR => repeat (first | exact (Kd.R_reads' HO_4.out).2.2 | (with_reducible refine Kd.C_alloc ?_ _) | (with_reducible refine Kd.C_drewN ?_ _) | (with_reducible refine Kd.C_drew ?_)))
                      (case aF => exact (fun k_ hk => ⟨Kd.fresh' (Kd.R_lt (by (with_reducible repeat (first | apply Kd.R_alloc | apply Kd.R_drewN | apply Kd.R_drew)); exact HO_3.out)) k_ hk, Kd.fresh' (Kd.R_lt (by (with_reducible repeat (first | apply Kd.R_alloc | apply Kd.R_drewN | apply Kd.R_drew)); exact HO_4.out)) k_ hk, Kd.fresh' (Kd.R_lt (by (with_reducible repeat (first | apply Kd.R_alloc | apply Kd.R_drewN | apply Kd.R_drew)); exact HO160.out)) k_ hk⟩))
                      (case aO => exact (by (with_reducible repeat (first | apply Kd.R_alloc | apply Kd.R_drewN | apply Kd.R_drew)); exact Kd.R_mono HO153.out (fun _ hk => ⟨hk.1.1.2, ⟨hk.1.2, hk.2⟩⟩)))
                      (case aS => exact (keep_size (w := w) (g := g) (row := none) (by repeat (first | (with_reducible first | exact HK.out | apply KeepBut.set_ | apply keep_drewN | apply keep_drew | apply keep_alloc) | exact HK.out))))
                      (case aL => have := LMc14.out; omega)
                      intro v155 w42 ho hb hg hat
                      have HS0_ := cell_grown hg (hHeld.1) (by first | (rw [add_block]; exact (fun e_ => by have h_ := HO153.out.1 _ e_.symm; first | exact h_ rfl | exact h_.1 rfl | exact h_.2 rfl | exact h_.1.1 rfl | exact h_.1.2 rfl | exact h_.2.1 rfl | exact h_.2.2 rfl | exact h_.1.1.1 rfl | exact h_.1.1.2 rfl | exact h_.1.2.1 rfl | exact h_.1.2.2 rfl | exact h_.2.1.1 rfl | exact h_.2.1.2 rfl | exact h_.2.2.1 rfl | exact h_.2.2.2 rfl | exact h_.1.1.1.2 rfl | exact h_.1.1.1.1 rfl)) | (show some (Addr.add _ _).block ≠ _; rw [add_block]; exact (fun e_ => by have h_ := HO153.out.1 _ e_.symm; first | exact h_ rfl | exact h_.1 rfl | exact h_.2 rfl | exact h_.1.1 rfl | exact h_.1.2 rfl | exact h_.2.1 rfl | exact h_.2.2 rfl | exact h_.1.1.1 rfl | exact h_.1.1.2 rfl | exact h_.1.2.1 rfl | exact h_.1.2.2 rfl | exact h_.2.1.1 rfl | exact h_.2.1.2 rfl | exact h_.2.2.1 rfl | exact h_.2.2.2 rfl | exact h_.1.1.1.2 rfl | exact h_.1.1.1.1 rfl)) | exact (fun e_ => by have h_ := HO153.out.1 _ e_.symm; first | exact h_ rfl | exact h_.1 rfl | exact h_.2 rfl | exact h_.1.1 rfl | exact h_.1.2 rfl | exact h_.2.1 rfl | exact h_.2.2 rfl | exact h_.1.1.1 rfl | exact h_.1.1.2 rfl | exact h_.1.2.1 rfl | exact h_.1.2.2 rfl | exact h_.2.1.1 rfl | exact h_.2.1.2 rfl | exact h_.2.2.1 rfl | exact h_.2.2.2 rfl | exact h_.1.1.1.2 rfl | exact h_.1.1.1.1 rfl))
                      have HS1_ := cell_grown hg (hHeld.2.1) (by first | (rw [add_block]; exact (fun e_ => by have h_ := HO153.out.1 _ e_.symm; first | exact h_ rfl | exact h_.1 rfl | exact h_.2 rfl | exact h_.1.1 rfl | exact h_.1.2 rfl | exact h_.2.1 rfl | exact h_.2.2 rfl | exact h_.1.1.1 rfl | exact h_.1.1.2 rfl | exact h_.1.2.1 rfl | exact h_.1.2.2 rfl | exact h_.2.1.1 rfl | exact h_.2.1.2 rfl | exact h_.2.2.1 rfl | exact h_.2.2.2 rfl | exact h_.1.1.1.2 rfl | exact h_.1.1.1.1 rfl)) | (show some (Addr.add _ _).block ≠ _; rw [add_block]; exact (fun e_ => by have h_ := HO153.out.1 _ e_.symm; first | exact h_ rfl | exact h_.1 rfl | exact h_.2 rfl | exact h_.1.1 rfl | exact h_.1.2 rfl | exact h_.2.1 rfl | exact h_.2.2 rfl | exact h_.1.1.1 rfl | exact h_.1.1.2 rfl | exact h_.1.2.1 rfl | exact h_.1.2.2 rfl | exact h_.2.1.1 rfl | exact h_.2.1.2 rfl | exact h_.2.2.1 rfl | exact h_.2.2.2 rfl | exact h_.1.1.1.2 rfl | exact h_.1.1.1.1 rfl)) | exact (fun e_ => by have h_ := HO153.out.1 _ e_.symm; first | exact h_ rfl | exact h_.1 rfl | exact h_.2 rfl | exact h_.1.1 rfl | exact h_.1.2 rfl | exact h_.2.1 rfl | exact h_.2.2 rfl | exact h_.1.1.1 rfl | exact h_.1.1.2 rfl | exact h_.1.2.1 rfl | exact h_.1.2.2 rfl | exact h_.2.1.1 rfl | exact h_.2.1.2 rfl | exact h_.2.2.1 rfl | exact h_.2.2.2 rfl | exact h_.1.1.1.2 rfl | exact h_.1.1.1.1 rfl))
                      have HS2_ := cell_grown hg (hHeld.2.2) (by first | (rw [add_block]; exact (fun e_ => by have h_ := HO153.out.1 _ e_.symm; first | exact h_ rfl | exact h_.1 rfl | exact h_.2 rfl | exact h_.1.1 rfl | exact h_.1.2 rfl | exact h_.2.1 rfl | exact h_.2.2 rfl | exact h_.1.1.1 rfl | exact h_.1.1.2 rfl | exact h_.1.2.1 rfl | exact h_.1.2.2 rfl | exact h_.2.1.1 rfl | exact h_.2.1.2 rfl | exact h_.2.2.1 rfl | exact h_.2.2.2 rfl | exact h_.1.1.1.2 rfl | exact h_.1.1.1.1 rfl)) | (show some (Addr.add _ _).block ≠ _; rw [add_block]; exact (fun e_ => by have h_ := HO153.out.1 _ e_.symm; first | exact h_ rfl | exact h_.1 rfl | exact h_.2 rfl | exact h_.1.1 rfl | exact h_.1.2 rfl | exact h_.2.1 rfl | exact h_.2.2 rfl | exact h_.1.1.1 rfl | exact h_.1.1.2 rfl | exact h_.1.2.1 rfl | exact h_.1.2.2 rfl | exact h_.2.1.1 rfl | exact h_.2.1.2 rfl | exact h_.2.2.1 rfl | exact h_.2.2.2 rfl | exact h_.1.1.1.2 rfl | exact h_.1.1.1.1 rfl)) | exact (fun e_ => by have h_ := HO153.out.1 _ e_.symm; first | exact h_ rfl | exact h_.1 rfl | exact h_.2 rfl | exact h_.1.1 rfl | exact h_.1.2 rfl | exact h_.2.1 rfl | exact h_.2.2 rfl | exact h_.1.1.1 rfl | exact h_.1.1.2 rfl | exact h_.1.2.1 rfl | exact h_.1.2.2 rfl | exact h_.2.1.1 rfl | exact h_.2.1.2 rfl | exact h_.2.2.1 rfl | exact h_.2.2.2 rfl | exact h_.1.1.1.2 rfl | exact h_.1.1.1.1 rfl))
                      rw [← Ny154.out] at ho
                      have n0_ := Aside0.mk (Kd.R_after (ok := (fun k_ => some k_ ≠ (.slice Ao35 x4_1.length co35 : Value).ownBlock ∧ some k_ ≠ (v159 : Value).ownBlock)) (by (with_reducible repeat (first | apply Kd.R_alloc | apply Kd.R_drewN | apply Kd.R_drew)); exact HO_3.out) hg hat)
                      have n1_ := Aside0.mk (Kd.R_after (ok := (fun k_ => some k_ ≠ (.slice (some ad157) y139.length co37 : Value).ownBlock ∧ some k_ ≠ (v159 : Value).ownBlock)) (by (with_reducible repeat (first | apply Kd.R_alloc | apply Kd.R_drewN | apply Kd.R_drew)); exact HO_4.out) hg hat)
                      have n2_ := Aside0.mk (IsS190.grown (by repeat (first | (with_reducible first | exact HI0.out | apply IsS190.alloc | apply IsS190.drewN | apply IsS190.drew | apply IsS190.set_1 | apply IsS190.set_2) | exact HI0.out)) hg (IsS190.own_ne HI0.out HO153.out (by decide)))
                      have n3_ := Aside0.mk (Kd.R_after (ok := (fun k_ => some k_ ≠ (.slice (some ad157) y139.length co37 : Value).ownBlock ∧ some k_ ≠ (.slice Ao35 x4_1.length co35 : Value).ownBlock)) (by (with_reducible repeat (first | apply Kd.R_alloc | apply Kd.R_drewN | apply Kd.R_drew)); exact Kd.R_mono HO160.out (fun _ hk => ⟨⟨hk.1.1.2, hk.1.2⟩, hk.2⟩)) hg hat)
                      have n4_ := Aside0.mk (below_weaken (by repeat (first | (with_reducible first | exact HB.out | apply below_alloc | apply pw_below_drewN | apply below_drew1 | refine below_set ?_ (IsS190.ge HI0.out)) | exact HB.out)) HL.out hb)
                      have n5_ := Aside0.mk (KeepBut.trans (by repeat (first | (with_reducible first | exact HK.out | apply KeepBut.set_ | apply keep_drewN | apply keep_drew | apply keep_alloc) | exact HK.out)) (KeepBut.of_grown hg g) (Kd.R_base2 HO153.out))
                      have n6_ := Aside0.mk (ho)
                      clear HO_3
                      clear HO_4
                      clear HI0
                      clear HO160
                      clear HB
                      clear HK
                      clear HO153
                      have HO_3 := n0_
                      have HO_4 := n1_
                      have HI0 := n2_
                      have HO160 := n3_
                      have HB := n4_
                      have HK := n5_
                      have HO156 := n6_
                      clear n0_ n1_ n2_ n3_ n4_ n5_ n6_
                      clear ho hb hg hat
                      refine hK.out _ _ ⟨HS0_, HS1_, HS2_⟩ (fun hHeld => ?_)
                      clear hK K
                      refine norm_ (a' := ?_) ?_ ?_
                      rotate_left
                      · show Act.put _ (some 33) _ = _
                        simp only [Act.put, List.setIfInBounds_toArray, List.set_cons_zero, List.set_cons_succ, i64_w, i32_w]
                        rfl
                      exact norm_ (by simp only [putAll, Act.put, List.setIfInBounds_toArray, List.set_cons_zero, List.set_cons_succ]) (hCont (v152, v155, v159) _ ⟨hHeld, (by (with_reducible repeat (first | apply Kd.R_alloc | apply Kd.R_drewN | apply Kd.R_drew)); exact Kd.R_mono HO156.out (fun _ hk => ⟨hk.2.2, ⟨hk.1, hk.2.1⟩⟩)), (by (with_reducible repeat (first | apply Kd.R_alloc | apply Kd.R_drewN | apply Kd.R_drew)); exact Kd.R_mono HO160.out (fun _ hk => ⟨hk.2, ⟨hk.1.1, hk.1.2⟩⟩)), (by (with_reducible repeat (first | apply Kd.R_alloc | apply Kd.R_drewN | apply Kd.R_drew)); exact Kd.R_mono HO_3.out (fun _ hk => ⟨hk.2, ⟨hk.1.2, hk.1.1⟩⟩)), (by (with_reducible repeat (first | apply Kd.R_alloc | apply Kd.R_drewN | apply Kd.R_drew)); exact Kd.R_mono HO_4.out (fun _ hk => ⟨hk.2, ⟨hk.1.2, hk.1.1⟩⟩)), (by repeat (first | (with_reducible first | exact HI0.out | apply IsS190.alloc | apply IsS190.drewN | apply IsS190.drew | apply IsS190.set_1 | apply IsS190.set_2) | exact HI0.out)), (by repeat (first | (with_reducible first | exact HK.out | apply KeepBut.set_ | apply keep_drewN | apply keep_drew | apply keep_alloc) | exact HK.out)), (by repeat (first | (with_reducible first | exact HB.out | apply below_alloc | apply pw_below_drewN | apply below_drew1 | refine below_set ?_ (IsS190.ge HI0.out)) | exact HB.out))⟩)
                  rintro ⟨v152, v155, v159⟩ w43 ⟨hS_, h0_, h1_, h2_, h3_, h4_, h5_, h6_⟩
                  have n0_ : Aside0 (Kd.R k128 128 w43 w.heap.size (fun k_ => some k_ ≠ (v159 : Value).ownBlock ∧ some k_ ≠ (.slice (some ad157) y139.length co37 : Value).ownBlock ∧ some k_ ≠ (.slice Ao35 x4_1.length co35 : Value).ownBlock) v155 y154) := ⟨h0_⟩
                  have n1_ : Aside0 (Kd.R k128 128 w43 w.heap.size (fun k_ => some k_ ≠ (v155 : Value).ownBlock ∧ some k_ ≠ (.slice (some ad157) y139.length co37 : Value).ownBlock ∧ some k_ ≠ (.slice Ao35 x4_1.length co35 : Value).ownBlock) v159 y158) := ⟨h1_⟩
                  have n2_ : Aside0 (Kd.R k128 128 w43 w.heap.size (fun k_ => some k_ ≠ (v155 : Value).ownBlock ∧ some k_ ≠ (v159 : Value).ownBlock ∧ some k_ ≠ (.slice Ao35 x4_1.length co35 : Value).ownBlock) (.slice (some ad157) y139.length co37) y139) := ⟨h2_⟩
                  have n3_ : Aside0 (Kd.R k128 128 w43 w.heap.size (fun k_ => some k_ ≠ (v155 : Value).ownBlock ∧ some k_ ≠ (v159 : Value).ownBlock ∧ some k_ ≠ (.slice (some ad157) y139.length co37 : Value).ownBlock) (.slice Ao35 x4_1.length co35) x4_1) := ⟨h3_⟩
                  have n4_ : Aside0 (IsS190 w0 w43 g s0_0 t149 t150) := ⟨h4_⟩
                  have n5_ : Aside0 (KeepBut w w43 g none) := ⟨h5_⟩
                  have n6_ : Aside0 (Below w0.heap.size w0 w43) := ⟨h6_⟩
                  clear HO_3
                  clear HO_4
                  clear HI0
                  clear HK
                  clear HB
                  clear h0_ h1_ h2_ h3_ h4_ h5_ h6_
                  have HO156 := n0_
                  have HO160 := n1_
                  have HO_3 := n2_
                  have HO_4 := n3_
                  have HI0 := n4_
                  have HK := n5_
                  have HB := n6_
                  clear n0_ n1_ n2_ n3_ n4_ n5_ n6_
                  have hHeld : w43.cell? (ad157.add (((ji15)).toNat * 3)) = some (.string ((rd_T128 y139 (ji15)).f0)) ∧ w43.cell? ⟨(ad157.add (((ji15)).toNat * 3)).block, (ad157.add (((ji15)).toNat * 3)).off + 1, none⟩ = some (.int .i64 ((rd_T128 y139 (ji15)).f1)) ∧ w43.cell? ⟨(ad157.add (((ji15)).toNat * 3)).block, (ad157.add (((ji15)).toNat * 3)).off + 2, none⟩ = some (.bool ((rd_T128 y139 (ji15)).f2)) := hS_
                  obtain ⟨Ao45, co45, eo45⟩ := Kd.R_slice HO160.out
                  (first | subst eo45 | (injection eo45 with f1_ f2_ f3_; have f4_ := f1_.symm; have f5_ := f3_.symm; clear f1_ f2_ f3_; subst f4_; subst f5_))
                  refine norm_ (a' := ?_) ?_ ?_
                  rotate_left
                  · simp only [putAll, Act.put, List.setIfInBounds_toArray, List.set_cons_zero, List.set_cons_succ]
                    rfl
                  refine one_ (i := 11) (N := some 42) #[true, true, true, true, true, true, true, true, true, true, true, true, false] rfl rfl (one_of HT_.out (by kernel_rfl)) (by decide) (fun K hK => ?_)
                  refine Kd.R_append_rows_step k128 w.heap.size (by rfl) (.tmp 33) (.tmp 41) 52 128 (.agg #[(.string ⟨#[]⟩), (.int .i64 0), (.bool false)]) 32 rfl Try.underlying52 info128 rfl (by decide) (by omega) v155 y154 y158 _ _ _ (fun k_ => some k_ ≠ (.slice (some ad157) y139.length co37 : Value).ownBlock ∧ some k_ ≠ (.slice Ao35 x4_1.length co35 : Value).ownBlock ∧ some k_ ≠ (.slice Ao45 y158.length co45 : Value).ownBlock) (fun _ => False) rfl rfl ?aO ?aR (fun _ _ h => h) (fun _ h => h.elim) ?aF (Below.refl _ _) ?aS ?aL ?_
                  (case aR => repeat (first | exact (Kd.R_reads' HO160.out).2.2 | (with_reducible refine Kd.C_alloc ?_ _) | (with_reducible refine Kd.C_drewN ?_ _) | (with_reducible refine Kd.C_drew ?_)))
                  (case aF => exact (fun k_ hk => ⟨Kd.fresh' (Kd.R_lt (by (with_reducible repeat (first | apply Kd.R_alloc | apply Kd.R_drewN | apply Kd.R_drew)); exact HO_3.out)) k_ hk, Kd.fresh' (Kd.R_lt (by (with_reducible repeat (first | apply Kd.R_alloc | apply Kd.R_drewN | apply Kd.R_drew)); exact HO_4.out)) k_ hk, Kd.fresh' (Kd.R_lt (by (with_reducible repeat (first | apply Kd.R_alloc | apply Kd.R_drewN | apply Kd.R_drew)); exact HO160.out)) k_ hk⟩))
                  (case aO => exact (by (with_reducible repeat (first | apply Kd.R_alloc | apply Kd.R_drewN | apply Kd.R_drew)); exact Kd.R_mono HO156.out (fun _ hk => ⟨hk.2.1, ⟨hk.2.2, hk.1⟩⟩)))
                  (case aS => exact (keep_size (w := w) (g := g) (row := none) (by repeat (first | (with_reducible first | exact HK.out | apply KeepBut.set_ | apply keep_drewN | apply keep_drew | apply keep_alloc) | exact HK.out))))
                  (case aL => have := LMc18.out; omega)
                  intro v162 w44 ho hb hg hat
                  have HS0_ := cell_grown hg (hHeld.1) (by first | (rw [add_block]; exact (fun e_ => by have h_ := HO156.out.1 _ e_.symm; first | exact h_ rfl | exact h_.1 rfl | exact h_.2 rfl | exact h_.1.1 rfl | exact h_.1.2 rfl | exact h_.2.1 rfl | exact h_.2.2 rfl | exact h_.1.1.1 rfl | exact h_.1.1.2 rfl | exact h_.1.2.1 rfl | exact h_.1.2.2 rfl | exact h_.2.1.1 rfl | exact h_.2.1.2 rfl | exact h_.2.2.1 rfl | exact h_.2.2.2 rfl | exact h_.1.1.1.2 rfl | exact h_.1.1.1.1 rfl)) | (show some (Addr.add _ _).block ≠ _; rw [add_block]; exact (fun e_ => by have h_ := HO156.out.1 _ e_.symm; first | exact h_ rfl | exact h_.1 rfl | exact h_.2 rfl | exact h_.1.1 rfl | exact h_.1.2 rfl | exact h_.2.1 rfl | exact h_.2.2 rfl | exact h_.1.1.1 rfl | exact h_.1.1.2 rfl | exact h_.1.2.1 rfl | exact h_.1.2.2 rfl | exact h_.2.1.1 rfl | exact h_.2.1.2 rfl | exact h_.2.2.1 rfl | exact h_.2.2.2 rfl | exact h_.1.1.1.2 rfl | exact h_.1.1.1.1 rfl)) | exact (fun e_ => by have h_ := HO156.out.1 _ e_.symm; first | exact h_ rfl | exact h_.1 rfl | exact h_.2 rfl | exact h_.1.1 rfl | exact h_.1.2 rfl | exact h_.2.1 rfl | exact h_.2.2 rfl | exact h_.1.1.1 rfl | exact h_.1.1.2 rfl | exact h_.1.2.1 rfl | exact h_.1.2.2 rfl | exact h_.2.1.1 rfl | exact h_.2.1.2 rfl | exact h_.2.2.1 rfl | exact h_.2.2.2 rfl | exact h_.1.1.1.2 rfl | exact h_.1.1.1.1 rfl))
                  have HS1_ := cell_grown hg (hHeld.2.1) (by first | (rw [add_block]; exact (fun e_ => by have h_ := HO156.out.1 _ e_.symm; first | exact h_ rfl | exact h_.1 rfl | exact h_.2 rfl | exact h_.1.1 rfl | exact h_.1.2 rfl | exact h_.2.1 rfl | exact h_.2.2 rfl | exact h_.1.1.1 rfl | exact h_.1.1.2 rfl | exact h_.1.2.1 rfl | exact h_.1.2.2 rfl | exact h_.2.1.1 rfl | exact h_.2.1.2 rfl | exact h_.2.2.1 rfl | exact h_.2.2.2 rfl | exact h_.1.1.1.2 rfl | exact h_.1.1.1.1 rfl)) | (show some (Addr.add _ _).block ≠ _; rw [add_block]; exact (fun e_ => by have h_ := HO156.out.1 _ e_.symm; first | exact h_ rfl | exact h_.1 rfl | exact h_.2 rfl | exact h_.1.1 rfl | exact h_.1.2 rfl | exact h_.2.1 rfl | exact h_.2.2 rfl | exact h_.1.1.1 rfl | exact h_.1.1.2 rfl | exact h_.1.2.1 rfl | exact h_.1.2.2 rfl | exact h_.2.1.1 rfl | exact h_.2.1.2 rfl | exact h_.2.2.1 rfl | exact h_.2.2.2 rfl | exact h_.1.1.1.2 rfl | exact h_.1.1.1.1 rfl)) | exact (fun e_ => by have h_ := HO156.out.1 _ e_.symm; first | exact h_ rfl | exact h_.1 rfl | exact h_.2 rfl | exact h_.1.1 rfl | exact h_.1.2 rfl | exact h_.2.1 rfl | exact h_.2.2 rfl | exact h_.1.1.1 rfl | exact h_.1.1.2 rfl | exact h_.1.2.1 rfl | exact h_.1.2.2 rfl | exact h_.2.1.1 rfl | exact h_.2.1.2 rfl | exact h_.2.2.1 rfl | exact h_.2.2.2 rfl | exact h_.1.1.1.2 rfl | exact h_.1.1.1.1 rfl))
                  have HS2_ := cell_grown hg (hHeld.2.2) (by first | (rw [add_block]; exact (fun e_ => by have h_ := HO156.out.1 _ e_.symm; first | exact h_ rfl | exact h_.1 rfl | exact h_.2 rfl | exact h_.1.1 rfl | exact h_.1.2 rfl | exact h_.2.1 rfl | exact h_.2.2 rfl | exact h_.1.1.1 rfl | exact h_.1.1.2 rfl | exact h_.1.2.1 rfl | exact h_.1.2.2 rfl | exact h_.2.1.1 rfl | exact h_.2.1.2 rfl | exact h_.2.2.1 rfl | exact h_.2.2.2 rfl | exact h_.1.1.1.2 rfl | exact h_.1.1.1.1 rfl)) | (show some (Addr.add _ _).block ≠ _; rw [add_block]; exact (fun e_ => by have h_ := HO156.out.1 _ e_.symm; first | exact h_ rfl | exact h_.1 rfl | exact h_.2 rfl | exact h_.1.1 rfl | exact h_.1.2 rfl | exact h_.2.1 rfl | exact h_.2.2 rfl | exact h_.1.1.1 rfl | exact h_.1.1.2 rfl | exact h_.1.2.1 rfl | exact h_.1.2.2 rfl | exact h_.2.1.1 rfl | exact h_.2.1.2 rfl | exact h_.2.2.1 rfl | exact h_.2.2.2 rfl | exact h_.1.1.1.2 rfl | exact h_.1.1.1.1 rfl)) | exact (fun e_ => by have h_ := HO156.out.1 _ e_.symm; first | exact h_ rfl | exact h_.1 rfl | exact h_.2 rfl | exact h_.1.1 rfl | exact h_.1.2 rfl | exact h_.2.1 rfl | exact h_.2.2 rfl | exact h_.1.1.1 rfl | exact h_.1.1.2 rfl | exact h_.1.2.1 rfl | exact h_.1.2.2 rfl | exact h_.2.1.1 rfl | exact h_.2.1.2 rfl | exact h_.2.2.1 rfl | exact h_.2.2.2 rfl | exact h_.1.1.1.2 rfl | exact h_.1.1.1.1 rfl))
                  rw [← Ny161.out] at ho
                  have n0_ := Aside0.mk (Kd.R_after (ok := (fun k_ => some k_ ≠ (.slice Ao35 x4_1.length co35 : Value).ownBlock ∧ some k_ ≠ (.slice Ao45 y158.length co45 : Value).ownBlock)) (by (with_reducible repeat (first | apply Kd.R_alloc | apply Kd.R_drewN | apply Kd.R_drew)); exact Kd.R_mono HO_3.out (fun _ hk => ⟨⟨hk.2.2, hk.2.1⟩, hk.1⟩)) hg hat)
                  have n1_ := Aside0.mk (Kd.R_after (ok := (fun k_ => some k_ ≠ (.slice (some ad157) y139.length co37 : Value).ownBlock ∧ some k_ ≠ (.slice Ao45 y158.length co45 : Value).ownBlock)) (by (with_reducible repeat (first | apply Kd.R_alloc | apply Kd.R_drewN | apply Kd.R_drew)); exact Kd.R_mono HO_4.out (fun _ hk => ⟨⟨hk.2.2, hk.2.1⟩, hk.1⟩)) hg hat)
                  have n2_ := Aside0.mk (IsS190.grown (by repeat (first | (with_reducible first | exact HI0.out | apply IsS190.alloc | apply IsS190.drewN | apply IsS190.drew | apply IsS190.set_1 | apply IsS190.set_2) | exact HI0.out)) hg (IsS190.own_ne HI0.out HO156.out (by decide)))
                  have n3_ := Aside0.mk (Kd.R_after (ok := (fun k_ => some k_ ≠ (.slice (some ad157) y139.length co37 : Value).ownBlock ∧ some k_ ≠ (.slice Ao35 x4_1.length co35 : Value).ownBlock)) (by (with_reducible repeat (first | apply Kd.R_alloc | apply Kd.R_drewN | apply Kd.R_drew)); exact Kd.R_mono HO160.out (fun _ hk => ⟨⟨hk.2.1, hk.2.2⟩, hk.1⟩)) hg hat)
                  have n4_ := Aside0.mk (below_weaken (by repeat (first | (with_reducible first | exact HB.out | apply below_alloc | apply pw_below_drewN | apply below_drew1 | refine below_set ?_ (IsS190.ge HI0.out)) | exact HB.out)) HL.out hb)
                  have n5_ := Aside0.mk (KeepBut.trans (by repeat (first | (with_reducible first | exact HK.out | apply KeepBut.set_ | apply keep_drewN | apply keep_drew | apply keep_alloc) | exact HK.out)) (KeepBut.of_grown hg g) (Kd.R_base2 HO156.out))
                  have n6_ := Aside0.mk (ho)
                  clear HO_3
                  clear HO_4
                  clear HI0
                  clear HO160
                  clear HB
                  clear HK
                  clear HO156
                  have HO_3 := n0_
                  have HO_4 := n1_
                  have HI0 := n2_
                  have HO160 := n3_
                  have HB := n4_
                  have HK := n5_
                  have HO163 := n6_
                  clear n0_ n1_ n2_ n3_ n4_ n5_ n6_
                  clear ho hb hg hat
                  refine hK.out _ _ ⟨HS0_, HS1_, HS2_⟩ (fun hHeld => ?_)
                  clear hK K
                  refine norm_ (a' := ?_) ?_ ?_
                  rotate_left
                  · show Act.put _ (some 42) _ = _
                    simp only [Act.put, List.setIfInBounds_toArray, List.set_cons_zero, List.set_cons_succ, i64_w, i32_w]
                    rfl
                  refine pure_ (i := 12) (N := some 7) (v := ?_) (a' := ?_) (bmk 13 8191) rfl rfl (any_of HT_.out (by kernel_rfl)) (fun _ _ _ h => h) (Or.inl ⟨by rfl, ?_⟩) ?_ ?_
                  rotate_left
                  · intro w'
                    go_simp
                    with_reducible rfl
                  rotate_left
                  · simp only [Act.put, List.setIfInBounds_toArray, List.set_cons_zero, List.set_cons_succ, i64_w, i32_w]
                    rfl
                  refine done_ (done_of HT_.out (by kernel_rfl)) ?_
                  obtain ⟨Ao46, co46, eo46⟩ := Kd.R_slice HO163.out
                  subst eo46
                  try go_wp2_with (first | ((with_reducible refine gate_callee (f := 93) rfl ?_); refine goesL_ (some 44) rfl rfl Try.func93 (by kernel_rfl) rfl #[.slice Ao46 y161.length co46] rfl (by (try simp only [List.map_toArray, List.map_cons, List.map_nil]); first | done | rfl | (simp only [List.length_drop, List.length_take]; rfl)) ?_; (with_reducible refine (spec_OpsOk.calls k1 _ _ y161 false _ ?side1 ?side2 A19.out).mono ?_); (case side1 => repeat (first | exact (Kd.R_reads' HO163.out).2.2 | (with_reducible refine Kd.C_alloc ?_ _) | (with_reducible refine Kd.C_drewN ?_ _) | (with_reducible refine Kd.C_drew ?_))); (case side2 => exact (Kd.R_reads' HO163.out).2.1); rintro e w' ⟨rfl, ⟨nd, rfl⟩⟩; refine ⟨_, rfl, ?_⟩))
                  go_roundg k1
                  case measure => have := HK1.out; omega
                  case rel => exact ⟨(x4_1), (wrap64 (x6_1 + 1)), (t149), (t150), (by first | rfl | (simp; done) | (simp [*]; done) | (simp [isE0, isE1]; done)), H', ⟨by have := HK1.out; omega⟩, ⟨by (with_reducible repeat (first | apply Kd.R_alloc | apply Kd.R_drewN | apply Kd.R_drew)); exact Kd.R_mono HO_3.out (fun _ hk => hk.1.1)⟩, ⟨by (with_reducible repeat (first | apply Kd.R_alloc | apply Kd.R_drewN | apply Kd.R_drew)); exact Kd.R_mono HO_4.out (fun _ hk => hk.1.1)⟩, ⟨by repeat (first | (with_reducible first | exact HI0.out | apply IsS190.alloc | apply IsS190.drewN | apply IsS190.drew | apply IsS190.set_1 | apply IsS190.set_2) | exact HI0.out)⟩, ⟨by repeat (first | (with_reducible first | exact HK.out | apply KeepBut.set_ | apply keep_drewN | apply keep_drew | apply keep_alloc) | exact HK.out)⟩, ⟨by repeat (first | (with_reducible first | exact HB.out | apply below_alloc | apply pw_below_drewN | apply below_drew1 | refine below_set ?_ (IsS190.ge HI0.out)) | exact HB.out)⟩⟩
              · rw [if_neg c18] at H
                exact absurd H (by simp)
            · rw [if_neg c17] at H
              exact absurd H (by simp)
          · rw [if_neg c16] at H
            exact absurd H (by simp)
        · rw [if_neg c14] at H
          exact absurd H (by simp)
      · rw [if_neg c13] at H
        have c13b0 : decide (x6_1 < (wrap64 (1 + t148))) = false := decide_eq_false c13
        clear c13
        simp only [Option.some.injEq, Prod.mk.injEq] at H
        obtain ⟨rfl, rfl, rfl⟩ := H
        go_wp2_with (first | ((with_reducible refine gate_callee (f := 132) rfl ?_); refine goesL_ (some 26) rfl rfl Try.func132 (by kernel_rfl) rfl #[.pointer (some ⟨g, 0, none⟩), .int .i64 4] rfl (by (try simp only [List.map_toArray, List.map_cons, List.map_nil]); first | done | rfl | (simp only [List.length_drop, List.length_take]; rfl)) ?_; (with_reducible refine (spec_l01Below.calls g s0_0 x1001_1 x1002_1 4 t148 t149 t150 w0 _ ?side1 ?side2 A12.out).mono ?_); (case side1 => repeat (first | (with_reducible first | exact HI0.out | apply IsS190.alloc | apply IsS190.drewN | apply IsS190.drew | apply IsS190.set_1 | apply IsS190.set_2) | exact HI0.out)); (case side2 => repeat (first | (with_reducible first | exact HB.out | apply below_alloc | apply pw_below_drewN | apply below_drew1 | refine below_set ?_ (IsS190.ge HI0.out)) | exact HB.out)); rintro e w47 ⟨rfl, hi, hb, hk⟩; refine ⟨_, rfl, ?_⟩; have n0_ := Aside0.mk (Kd.R_mono (Kd.R_keep (IsS190.apart (show IsS190 w0 _ g s0_0 x1001_1 x1002_1 from by repeat (first | (with_reducible first | exact HI0.out | apply IsS190.alloc | apply IsS190.drewN | apply IsS190.drew | apply IsS190.set_1 | apply IsS190.set_2) | exact HI0.out)) (by (with_reducible repeat (first | apply Kd.R_alloc | apply Kd.R_drewN | apply Kd.R_drew)); exact HO_3.out) (by decide)) hk (fun _ h => h.2)) (fun _ h => h.1)); have n1_ := Aside0.mk (Kd.R_mono (Kd.R_keep (IsS190.apart (show IsS190 w0 _ g s0_0 x1001_1 x1002_1 from by repeat (first | (with_reducible first | exact HI0.out | apply IsS190.alloc | apply IsS190.drewN | apply IsS190.drew | apply IsS190.set_1 | apply IsS190.set_2) | exact HI0.out)) (by (with_reducible repeat (first | apply Kd.R_alloc | apply Kd.R_drewN | apply Kd.R_drew)); exact HO_4.out) (by decide)) hk (fun _ h => h.2)) (fun _ h => h.1)); have n2_ := Aside0.mk (KeepBut.trans (by repeat (first | (with_reducible first | exact HK.out | apply KeepBut.set_ | apply keep_drewN | apply keep_drew | apply keep_alloc) | exact HK.out)) hk (.inl rfl)); have n3_ := Aside0.mk (hb); have n4_ := Aside0.mk (hi); clear HO_3; clear HO_4; clear HK; clear HB; clear HI0; have HO_3 := n0_; have HO_4 := n1_; have HK := n2_; have HB := n3_; have HI0 := n4_; clear n0_ n1_ n2_ n3_ n4_; (try clear hb); (try clear hb2); (try clear hk); (try clear hi)))
        go_ret
        exact ⟨_, by first | rfl | (simp [errW_none, errW_some] <;> rfl) | (simp [*, errW_none, errW_some] <;> rfl), by (with_reducible repeat (first | apply Kd.R_alloc | apply Kd.R_drewN | apply Kd.R_drew)); exact Kd.R_mono HO_4.out (fun _ hk => trivial), by repeat (first | (with_reducible first | exact HI0.out | apply IsS190.alloc | apply IsS190.drewN | apply IsS190.drew | apply IsS190.set_1 | apply IsS190.set_2) | exact HI0.out), by repeat (first | (with_reducible first | exact HB.out | apply below_alloc | apply pw_below_drewN | apply below_drew1 | refine below_set ?_ (IsS190.ge HI0.out)) | exact HB.out), by repeat (first | (with_reducible first | exact HK.out | apply KeepBut.set_ | apply keep_drewN | apply keep_drew | apply keep_alloc) | exact HK.out)⟩

end Go.Proofs.Ytlkbdoejeomlmaa.PFnParentheses
