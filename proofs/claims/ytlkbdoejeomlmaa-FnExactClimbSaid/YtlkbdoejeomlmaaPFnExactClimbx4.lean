/- Written by a program of this session out of Lean's print of the translation: what the calls of these Go functions come to, in plain Lean. No condition. -/
import Derived.Test.YtlkbdoejeomlmaaPFnExactClimbx0
namespace Go.Proofs.Ytlkbdoejeomlmaa.PFnExactClimb
open Go.RowKit Go.Proofs.YtlkbdoejeomlmaaW.PrintWords Go.Proofs.YtlkbdoejeomlmaaW.PrintLast Go.Proofs.YtlkbdoejeomlmaaW.PrintMore
attribute [local go_sem] max2_int min2_int max_two min_two max_three min_three max_four min_four   -- for this text's walks alone
set_option linter.unusedVariables false
set_option linter.unusedSimpArgs false

/-- A state of type 137 at block g of W; what its slices lead to came in by w0. -/
def IsS137 (w0 W : World) (g : Nat) (f0 : List (S128)) (f1 : ByteArray) (f2 : Int) (f3 : Bool) : Prop := ∃ A0 c0, W.heap[g]? = some (.cells #[.slice A0 f0.length c0, .string f1, .int .i64 f2, .bool f3] 137 (0, 0)) ∧ w0.heap.size ≤ g ∧ Kd.C k128 w0 A0 f0.length f0
theorem IsS137.grown {w0 W : World} {g : Nat} {f0 : List (S128)} {f1 : ByteArray} {f2 : Int} {f3 : Bool} {W1 : World} {row : Option Nat} (h : IsS137 w0 W g f0 f1 f2 f3) (hw : W.grownBy W1 row) (hne : some g ≠ row) : IsS137 w0 W1 g f0 f1 f2 f3 := by
  obtain ⟨A0, c0, hb, hg, hr0⟩ := h
  exact ⟨A0, c0, blk_grown hb hw hne, hg, hr0⟩
theorem IsS137.own_neN {w0 W : World} {g : Nat} {f0 : List (S128)} {f1 : ByteArray} {f2 : Int} {f3 : Bool} {α : Type} {d : Kd α} {e : Nat} {base : Nat} {ok : Nat → Prop} {v : Value} {xs : List α} (h : IsS137 w0 W g f0 f1 f2 f3) (ho : Kd.N d e W base ok v xs) (ht : e ≠ 137) : some g ≠ v.ownBlock := by
  obtain ⟨A0, c0, hb, hg, hr0⟩ := h
  exact Kd.N_ne ho hb ht
theorem IsS137.fresh {w0 W : World} {g : Nat} {f0 : List (S128)} {f1 : ByteArray} {f2 : Int} {f3 : Bool} (h : IsS137 w0 W g f0 f1 f2 f3) : ∀ k, W.heap.size ≤ k → k ≠ g := by
  obtain ⟨A0, c0, hb, hg, hr0⟩ := h
  exact Kd.freshB hb
theorem IsS137.kept {w0 W : World} {g : Nat} {f0 : List (S128)} {f1 : ByteArray} {f2 : Int} {f3 : Bool} {W1 : World} {S : Nat → Prop} (h : IsS137 w0 W g f0 f1 f2 f3) (hk : Kept W W1 S) (hne : ¬ S g) : IsS137 w0 W1 g f0 f1 f2 f3 := by
  obtain ⟨A0, c0, hb, hg, hr0⟩ := h
  exact ⟨A0, c0, blk_kept hb hk hne, hg, hr0⟩
theorem IsS137.below {w0 W : World} {g : Nat} {f0 : List (S128)} {f1 : ByteArray} {f2 : Int} {f3 : Bool} {W1 : World} (h : IsS137 w0 W g f0 f1 f2 f3) (hw : Below W.heap.size W W1) : IsS137 w0 W1 g f0 f1 f2 f3 := h.grown (grown_of_below hw none) (by simp)
theorem IsS137.alloc {w0 W : World} {g : Nat} {f0 : List (S128)} {f1 : ByteArray} {f2 : Int} {f3 : Bool} (h : IsS137 w0 W g f0 f1 f2 f3) (o : Obj) : IsS137 w0 (W.alloc o) g f0 f1 f2 f3 := h.below (below_alloc (Below.refl _ _) o)
theorem IsS137.drewN {w0 W : World} {g : Nat} {f0 : List (S128)} {f1 : ByteArray} {f2 : Int} {f3 : Bool} (h : IsS137 w0 W g f0 f1 f2 f3) (m : Nat) : IsS137 w0 (W.drewN m) g f0 f1 f2 f3 := h
theorem IsS137.drew {w0 W : World} {g : Nat} {f0 : List (S128)} {f1 : ByteArray} {f2 : Int} {f3 : Bool} (h : IsS137 w0 W g f0 f1 f2 f3) : IsS137 w0 W.drew g f0 f1 f2 f3 := h
theorem IsS137.at_ {w0 W : World} {g : Nat} {f0 : List (S128)} {f1 : ByteArray} {f2 : Int} {f3 : Bool} {w' : World} {m : Nat} (hq : W.drewN m = w') (h : IsS137 w0 W g f0 f1 f2 f3) : IsS137 w0 w' g f0 f1 f2 f3 := by subst hq; exact IsS137.drewN h m
theorem IsS137.apart {w0 W : World} {g : Nat} {f0 : List (S128)} {f1 : ByteArray} {f2 : Int} {f3 : Bool} {α : Type} {d : Kd α} {e : Nat} {base : Nat} {ok : Nat → Prop} {v : Value} {xs : List α} (h : IsS137 w0 W g f0 f1 f2 f3) (ho : d.R e W base ok v xs) (ht : ∀ q, q ∈ e :: d.E → q ≠ 137) : d.R e W base (fun k => ok k ∧ k ≠ g) v xs := by
  obtain ⟨A0, c0, hb, hg, hr0⟩ := h
  exact Kd.R_types ho hb ht
theorem IsS137.own_ne {w0 W : World} {g : Nat} {f0 : List (S128)} {f1 : ByteArray} {f2 : Int} {f3 : Bool} {α : Type} {d : Kd α} {e : Nat} {base : Nat} {ok : Nat → Prop} {v : Value} {xs : List α} (h : IsS137 w0 W g f0 f1 f2 f3) (ho : d.R e W base ok v xs) (ht : e ≠ 137) : some g ≠ v.ownBlock := by
  obtain ⟨A0, c0, hb, hg, hr0⟩ := h
  exact Kd.R_ne ho hb ht
theorem IsS137.apartQ {w0 W : World} {g : Nat} {f0 : List (S128)} {f1 : ByteArray} {f2 : Int} {f3 : Bool} {α : Type} {d : Kd α} {e : Nat} {base : Nat} {ok : Nat → Prop} {v : Value} {xs : List α} (h : IsS137 w0 W g f0 f1 f2 f3) (ho : d.Q e W base ok v xs) (ht : ∀ q, q ∈ e :: d.E → q ≠ 137) : d.Q e W base (fun k => ok k ∧ k ≠ g) v xs := by
  obtain ⟨A0, c0, hb, hg, hr0⟩ := h
  exact Kd.Q_types ho hb ht
theorem IsS137.own_neQ {w0 W : World} {g : Nat} {f0 : List (S128)} {f1 : ByteArray} {f2 : Int} {f3 : Bool} {α : Type} {d : Kd α} {e : Nat} {base : Nat} {ok : Nat → Prop} {v : Value} {xs : List α} (h : IsS137 w0 W g f0 f1 f2 f3) (ho : d.Q e W base ok v xs) (ht : e ≠ 137) : some g ≠ v.ownBlock := by
  obtain ⟨A0, c0, hb, hg, hr0⟩ := h
  exact Kd.Q_ne ho hb ht
theorem IsS137.apartS {w0 W : World} {g : Nat} {f0 : List (S128)} {f1 : ByteArray} {f2 : Int} {f3 : Bool} {α : Type} {d : Kd α} {e : Nat} {base : Nat} {ok : Nat → Prop} {v : Value} {xs : List α} (h : IsS137 w0 W g f0 f1 f2 f3) (ho : d.S e W base ok v xs) (ht : ∀ q, q ∈ e :: d.E → q ≠ 137) : d.S e W base (fun k => ok k ∧ k ≠ g) v xs := by
  obtain ⟨A0, c0, hb, hg, hr0⟩ := h
  exact Kd.S_types ho hb ht
theorem IsS137.own_neS {w0 W : World} {g : Nat} {f0 : List (S128)} {f1 : ByteArray} {f2 : Int} {f3 : Bool} {α : Type} {d : Kd α} {e : Nat} {base : Nat} {ok : Nat → Prop} {v : Value} {xs : List α} (h : IsS137 w0 W g f0 f1 f2 f3) (ho : d.S e W base ok v xs) (ht : e ≠ 137) : some g ≠ v.ownBlock := by
  obtain ⟨A0, c0, hb, hg, hr0⟩ := h
  exact Kd.S_ne ho hb ht
theorem IsS137.lt {w0 W : World} {g : Nat} {f0 : List (S128)} {f1 : ByteArray} {f2 : Int} {f3 : Bool} (h : IsS137 w0 W g f0 f1 f2 f3) : g < W.heap.size := by
  obtain ⟨A0, c0, hb, hg, hr0⟩ := h
  exact blk_lt hb
theorem IsS137.ge {w0 W : World} {g : Nat} {f0 : List (S128)} {f1 : ByteArray} {f2 : Int} {f3 : Bool} (h : IsS137 w0 W g f0 f1 f2 f3) : w0.heap.size ≤ g := by
  obtain ⟨A0, c0, hb, hg, hr0⟩ := h
  exact hg
theorem IsS137.ne_blk {w0 W : World} {g : Nat} {f0 : List (S128)} {f1 : ByteArray} {f2 : Int} {f3 : Bool} {a : Nat} {cs : Array Value} {t : TypeId} {fr : Nat × Nat} (h : IsS137 w0 W g f0 f1 f2 f3) (hb2 : W.heap[a]? = some (.cells cs t fr)) (ht : t ≠ 137) : g ≠ a := by
  obtain ⟨A0, c0, hb, hg, hr0⟩ := h
  rintro rfl
  rw [hb] at hb2
  injection hb2 with hb2
  injection hb2 with _ ht2
  exact ht ht2.symm
theorem IsS137.far {w0 W : World} {g : Nat} {f0 : List (S128)} {f1 : ByteArray} {f2 : Int} {f3 : Bool} {p : Addr} (h : IsS137 w0 W g f0 f1 f2 f3) (hne : g ≠ p.block) (u : Value) : IsS137 w0 (W.setCell p u) g f0 f1 f2 f3 := by
  obtain ⟨A0, c0, hb, hg, hr0⟩ := h
  exact ⟨A0, c0, blk_far hb hne u, hg, hr0⟩
theorem cellS137_0 {W : World} {g : Nat} {A0 : Option Addr} {c0 : Nat} {f0 : List (S128)} {f1 : ByteArray} {f2 : Int} {f3 : Bool} (h : W.heap[g]? = some (.cells #[.slice A0 f0.length c0, .string f1, .int .i64 f2, .bool f3] 137 (0, 0))) : W.cell? ⟨g, 0, none⟩ = some (.slice A0 f0.length c0) := (blk_cell h 0).trans rfl
theorem cellS137_1 {W : World} {g : Nat} {A0 : Option Addr} {c0 : Nat} {f0 : List (S128)} {f1 : ByteArray} {f2 : Int} {f3 : Bool} (h : W.heap[g]? = some (.cells #[.slice A0 f0.length c0, .string f1, .int .i64 f2, .bool f3] 137 (0, 0))) : W.cell? ⟨g, 1, none⟩ = some (.string f1) := (blk_cell h 1).trans rfl
theorem IsS137.set_1 {w0 W : World} {g : Nat} {f0 : List (S128)} {f1 : ByteArray} {f2 : Int} {f3 : Bool} (h : IsS137 w0 W g f0 f1 f2 f3) (x : ByteArray) : IsS137 w0 (W.setCell ⟨g, 1, none⟩ (.string x)) g f0 x f2 f3 := by
  obtain ⟨A0, c0, hb, hg, hr0⟩ := h
  exact ⟨A0, c0, by simpa using blk_set hb 1 (.string x), hg, hr0⟩
theorem cellS137_2 {W : World} {g : Nat} {A0 : Option Addr} {c0 : Nat} {f0 : List (S128)} {f1 : ByteArray} {f2 : Int} {f3 : Bool} (h : W.heap[g]? = some (.cells #[.slice A0 f0.length c0, .string f1, .int .i64 f2, .bool f3] 137 (0, 0))) : W.cell? ⟨g, 2, none⟩ = some (.int .i64 f2) := (blk_cell h 2).trans rfl
theorem IsS137.set_2 {w0 W : World} {g : Nat} {f0 : List (S128)} {f1 : ByteArray} {f2 : Int} {f3 : Bool} (h : IsS137 w0 W g f0 f1 f2 f3) (x : Int) : IsS137 w0 (W.setCell ⟨g, 2, none⟩ (.int .i64 x)) g f0 f1 x f3 := by
  obtain ⟨A0, c0, hb, hg, hr0⟩ := h
  exact ⟨A0, c0, by simpa using blk_set hb 2 (.int .i64 x), hg, hr0⟩
theorem cellS137_3 {W : World} {g : Nat} {A0 : Option Addr} {c0 : Nat} {f0 : List (S128)} {f1 : ByteArray} {f2 : Int} {f3 : Bool} (h : W.heap[g]? = some (.cells #[.slice A0 f0.length c0, .string f1, .int .i64 f2, .bool f3] 137 (0, 0))) : W.cell? ⟨g, 3, none⟩ = some (.bool f3) := (blk_cell h 3).trans rfl
theorem IsS137.set_3 {w0 W : World} {g : Nat} {f0 : List (S128)} {f1 : ByteArray} {f2 : Int} {f3 : Bool} (h : IsS137 w0 W g f0 f1 f2 f3) (x : Bool) : IsS137 w0 (W.setCell ⟨g, 3, none⟩ (.bool x)) g f0 f1 f2 x := by
  obtain ⟨A0, c0, hb, hg, hr0⟩ := h
  exact ⟨A0, c0, by simpa using blk_set hb 3 (.bool x), hg, hr0⟩
theorem IsS137.new (w0 W : World) (A0 : Option Addr) (c0 : Nat) (f0 : List (S128)) (f1 : ByteArray) (f2 : Int) (f3 : Bool) (hB : Below w0.heap.size w0 W) (hr0 : Kd.C k128 w0 A0 f0.length f0) : IsS137 w0 (W.alloc (.cells #[.slice A0 f0.length c0, .string f1, .int .i64 f2, .bool f3] 137)) W.heap.size f0 f1 f2 f3 := ⟨A0, c0, by simpa using heap_alloc_new W _, hB.size, hr0⟩

/-! ### spec_l13Climb_op: function 155 -/
mutual
def spec_l13Climb_op.l0 : Nat → Int → List (S128) → ByteArray → Int → Bool → Option (Int × ByteArray × Int × Bool)
  | 0, _, _, _, _, _ => none
  | k + 1, x3, x1000, x1001, x1002, x1003 => if x3 < (x1000.length : Int) then (if x1003 = true then (spec_l13Climb_op.j1 k x3 false x1000 x1001 x1002 x1003) else (spec_l13Climb_op.j1 k x3 (decide (x1002 < (x1001.size : Int))) x1000 x1001 x1002 x1003)) else (spec_l13Climb_op.j1 k x3 false x1000 x1001 x1002 x1003)
def spec_l13Climb_op.j1 : Nat → Int → Bool → List (S128) → ByteArray → Int → Bool → Option (Int × ByteArray × Int × Bool)
  | 0, _, _, _, _, _, _ => none
  | k + 1, x3, x29, x1000, x1001, x1002, x1003 => if x29 = true then (if 0 ≤ x1002 then (if x1002 ≤ (wrap64 (x1002 + 1)) then (if (wrap64 (x1002 + 1)) ≤ (x1001.size : Int) then (if 0 ≤ x3 then (if x3 < (x1000.length : Int) then (if (x1001.extract (x1002 : Int).toNat ((wrap64 (x1002 + 1)) : Int).toNat).toList = ((rd_T128 x1000 x3).f0).toList then (some (x3, x1001, x1002, x1003)) else (spec_l13Climb_op.l0 k (wrap64 (x3 + 1)) x1000 x1001 x1002 x1003)) else (none)) else (none)) else (none)) else (none)) else (none)) else (some ((-1), x1001, x1002, x1003))
end
def spec_l13Climb_op.f (k : Nat) (s0_0 : List (S128)) (s0_1 : ByteArray) (s0_2 : Int) (s0_3 : Bool) : Option (Int × ByteArray × Int × Bool) := spec_l13Climb_op.l0 k 0 s0_0 s0_1 s0_2 s0_3
theorem spec_l13Climb_op.mono_l : ∀ k, (∀ y0 y1 y2 y3 y4, LeO (spec_l13Climb_op.l0 k y0 y1 y2 y3 y4) (spec_l13Climb_op.l0 (k + 1) y0 y1 y2 y3 y4)) ∧ (∀ y0 y1 y2 y3 y4 y5, LeO (spec_l13Climb_op.j1 k y0 y1 y2 y3 y4 y5) (spec_l13Climb_op.j1 (k + 1) y0 y1 y2 y3 y4 y5))
  | 0 => ⟨fun _ _ _ _ _ r h => by simp [spec_l13Climb_op.l0] at h, fun _ _ _ _ _ _ r h => by simp [spec_l13Climb_op.j1] at h⟩
  | k + 1 => by
    obtain ⟨ih0, ih1⟩ := spec_l13Climb_op.mono_l k
    refine ⟨?_, ?_⟩
    · intro y0 y1 y2 y3 y4
      unfold spec_l13Climb_op.l0
      repeat' first
      | (with_reducible exact ih0 _ _ _ _ _)
      | (with_reducible exact ih1 _ _ _ _ _ _)
      | (with_reducible exact LeO.refl _)
      | (with_reducible exact LeO.none _)
      | (with_reducible refine LeO.ite ?_ ?_)
      | (with_reducible refine LeO.bind ?_ (fun _ => ?_))
      | exact ih0 _ _ _ _ _
      | exact ih1 _ _ _ _ _ _
      | exact LeO.none _
      | refine LeO.ite ?_ ?_
      | refine LeO.bind ?_ (fun _ => ?_)
    · intro y0 y1 y2 y3 y4 y5
      unfold spec_l13Climb_op.j1
      repeat' first
      | (with_reducible exact ih0 _ _ _ _ _)
      | (with_reducible exact ih1 _ _ _ _ _ _)
      | (with_reducible exact LeO.refl _)
      | (with_reducible exact LeO.none _)
      | (with_reducible refine LeO.ite ?_ ?_)
      | (with_reducible refine LeO.bind ?_ (fun _ => ?_))
      | exact ih0 _ _ _ _ _
      | exact ih1 _ _ _ _ _ _
      | exact LeO.none _
      | refine LeO.ite ?_ ?_
      | refine LeO.bind ?_ (fun _ => ?_)
theorem spec_l13Climb_op.mono : ∀ a0 a1 a2 a3 k, LeO (spec_l13Climb_op.f k a0 a1 a2 a3) (spec_l13Climb_op.f (k + 1) a0 a1 a2 a3) := by
  intro a0 a1 a2 a3 k
  obtain ⟨ih0, ih1⟩ := spec_l13Climb_op.mono_l k
  unfold spec_l13Climb_op.f
  repeat' first
      | (with_reducible exact ih0 _ _ _ _ _)
      | (with_reducible exact ih1 _ _ _ _ _ _)
      | (with_reducible exact LeO.refl _)
      | (with_reducible exact LeO.none _)
      | (with_reducible refine LeO.ite ?_ ?_)
      | (with_reducible refine LeO.bind ?_ (fun _ => ?_))
      | exact ih0 _ _ _ _ _
      | exact ih1 _ _ _ _ _ _
      | exact LeO.none _
      | refine LeO.ite ?_ ?_
      | refine LeO.bind ?_ (fun _ => ?_)
set_option maxHeartbeats 8000000 in
set_option maxRecDepth 100000 in
theorem spec_l13Climb_op.calls (k : Nat) (g : Nat) (s0_0 : List (S128)) (s0_1 : ByteArray) (s0_2 : Int) (s0_3 : Bool) (r1 : Int) (r2 : ByteArray) (r3 : Int) (r4 : Bool) (w0 w : World) (hI : IsS137 w0 w g s0_0 s0_1 s0_2 s0_3) (hB : Below w0.heap.size w0 w) (h : spec_l13Climb_op.f k s0_0 s0_1 s0_2 s0_3 = some (r1, r2, r3, r4)) :
    Calls Try.prog 155 #[.pointer (some ⟨g, 0, none⟩)] w fun e w' => e = .returned (.int .i64 r1) ∧ IsS137 w0 w' g s0_0 r2 r3 r4 ∧ Below w0.heap.size w0 w' ∧ KeepBut w w' g none := by
  have HI0 := Aside0.mk hI
  have HK := Aside0.mk (KeepBut.refl w g none)
  have HL := Aside0.mk hB.size
  clear hI
  have HW0 := Aside0.mk hB.size
  have HB := Aside0.mk hB
  clear hB
  have H : (spec_l13Climb_op.l0 k 0 s0_0 s0_1 s0_2 s0_3) = some (r1, r2, r3, r4) := h
  clear h
  have H' := Aside0.mk H
  clear H
  go_enter Try.func155, Try.ntmps155
  go_wp2
  repeat (go_quiet (fail); try go_wp2)
  go_loopg [3] k (fun kq v3 w' => ∃ (x3_1 : Int), v3 = .int .i64 x3_1 ∧ Aside0 (spec_l13Climb_op.l0 kq x3_1 s0_0 s0_1 s0_2 s0_3 = some (r1, r2, r3, r4)) ∧ Aside0 (kq ≤ k) ∧ Aside0 (IsS137 w0 w' g s0_0 s0_1 s0_2 s0_3) ∧ Aside0 (KeepBut w w' g none) ∧ Aside0 (Below w0.heap.size w0 w'))
  case atStart => exact ⟨(0), (by first | rfl | (simp; done) | (simp [*]; done) | (simp [isE0, isE1]; done)), H', ⟨Nat.le_refl _⟩, ⟨by repeat (first | (with_reducible first | exact HI0.out | apply IsS137.alloc | apply IsS137.drewN | apply IsS137.drew | apply IsS137.set_1 | apply IsS137.set_2 | apply IsS137.set_3) | exact HI0.out)⟩, ⟨by repeat (first | (with_reducible first | exact HK.out | apply KeepBut.set_ | apply keep_drewN | apply keep_drew | apply keep_alloc) | exact HK.out)⟩, ⟨by repeat (first | (with_reducible first | exact HB.out | apply below_alloc | apply pw_below_drewN | apply below_drew1 | refine below_set ?_ (IsS137.ge HI0.out)) | exact HB.out)⟩⟩
  case round =>
    clear H'
    try clear c1
    obtain ⟨x3_1, rfl, HA, HK1, HI0, HK, HB⟩ := hrel
    cases gk with
    | zero => exact absurd HA.out (by simp [spec_l13Climb_op.l0])
    | succ k1 =>
      have H := HA.out
      clear HA
      simp only [spec_l13Climb_op.l0] at H
      have HC2 := Aside0.mk H
      clear H
      go_upto_region 2 with (fail)
      repeat (go_quiet (fail); go_upto_region 2 with (fail))
      go_cut [29] (fun v29 wc => ∃ (kq : Nat) (x29_1 : Bool), v29 = .bool x29_1 ∧ Aside0 (spec_l13Climb_op.j1 kq x3_1 x29_1 s0_0 s0_1 s0_2 s0_3 = some (r1, r2, r3, r4)) ∧ Aside0 (kq ≤ k1) ∧ Aside0 (IsS137 w0 wc g s0_0 s0_1 s0_2 s0_3) ∧ Aside0 (KeepBut w wc g none) ∧ Aside0 (Below w0.heap.size w0 wc))
      case first =>
        have H := HC2.out
        clear HC2
        by_cases c3 : x3_1 < (s0_0.length : Int)
        · rw [if_pos c3] at H
          have c3b0 : decide (x3_1 < (s0_0.length : Int)) = true := decide_eq_true c3
          clear c3
          (first | rw [c3b0] | (simp only [i64_w, i32_w]; rw [c3b0]) | skip)
          by_cases c4 : s0_3 = true
          · subst c4
            have H1 : (spec_l13Climb_op.j1 k1 x3_1 false s0_0 s0_1 s0_2 true) = some (r1, r2, r3, r4) := by rw [if_pos rfl] at H; exact H
            clear H
            have H := H1
            clear H1
            have H' := Aside0.mk H
            clear H
            obtain ⟨ASz5_0, cSz5_0, HGz5, hgz5, HSz5_0⟩ := HI0.out
            have hcz5_0 := cellS137_0 HGz5
            have hcz5_1 := cellS137_1 HGz5
            have hcz5_2 := cellS137_2 HGz5
            have hcz5_3 := cellS137_3 HGz5
            have hfz5_1 := blk_frozen HGz5 1
            have hfz5_2 := blk_frozen HGz5 2
            have hfz5_3 := blk_frozen HGz5 3
            clear HGz5 hgz5
            go_wp2
            repeat (go_quiet (fail); try go_wp2)
            go_meet
            case rel => exact ⟨_, (false), (by first | rfl | (simp; done) | (simp [*]; done) | (simp [isE0, isE1]; done)), H', ⟨by have := HK1.out; first | omega | exact Nat.le_refl _⟩, ⟨by repeat (first | (with_reducible first | exact HI0.out | apply IsS137.alloc | apply IsS137.drewN | apply IsS137.drew | apply IsS137.set_1 | apply IsS137.set_2 | apply IsS137.set_3) | exact HI0.out)⟩, ⟨by repeat (first | (with_reducible first | exact HK.out | apply KeepBut.set_ | apply keep_drewN | apply keep_drew | apply keep_alloc) | exact HK.out)⟩, ⟨by repeat (first | (with_reducible first | exact HB.out | apply below_alloc | apply pw_below_drewN | apply below_drew1 | refine below_set ?_ (IsS137.ge HI0.out)) | exact HB.out)⟩⟩
          · replace c4 := Bool.eq_false_iff.mpr c4
            subst c4
            have H1 : (spec_l13Climb_op.j1 k1 x3_1 (decide (s0_2 < (s0_1.size : Int))) s0_0 s0_1 s0_2 false) = some (r1, r2, r3, r4) := by rw [if_neg (show ¬ (false = true) by decide)] at H; exact H
            clear H
            have H := H1
            clear H1
            have H' := Aside0.mk H
            clear H
            obtain ⟨ASz6_0, cSz6_0, HGz6, hgz6, HSz6_0⟩ := HI0.out
            have hcz6_0 := cellS137_0 HGz6
            have hcz6_1 := cellS137_1 HGz6
            have hcz6_2 := cellS137_2 HGz6
            have hcz6_3 := cellS137_3 HGz6
            have hfz6_1 := blk_frozen HGz6 1
            have hfz6_2 := blk_frozen HGz6 2
            have hfz6_3 := blk_frozen HGz6 3
            clear HGz6 hgz6
            go_wp2
            repeat (go_quiet (fail); try go_wp2)
            go_meet
            case rel => exact ⟨_, (decide (s0_2 < (s0_1.size : Int))), (by first | rfl | (simp; done) | (simp [*]; done) | (simp [isE0, isE1]; done)), H', ⟨by have := HK1.out; first | omega | exact Nat.le_refl _⟩, ⟨by repeat (first | (with_reducible first | exact HI0.out | apply IsS137.alloc | apply IsS137.drewN | apply IsS137.drew | apply IsS137.set_1 | apply IsS137.set_2 | apply IsS137.set_3) | exact HI0.out)⟩, ⟨by repeat (first | (with_reducible first | exact HK.out | apply KeepBut.set_ | apply keep_drewN | apply keep_drew | apply keep_alloc) | exact HK.out)⟩, ⟨by repeat (first | (with_reducible first | exact HB.out | apply below_alloc | apply pw_below_drewN | apply below_drew1 | refine below_set ?_ (IsS137.ge HI0.out)) | exact HB.out)⟩⟩
        · rw [if_neg c3] at H
          have c3b0 : decide (x3_1 < (s0_0.length : Int)) = false := decide_eq_false c3
          clear c3
          (first | rw [c3b0] | (simp only [i64_w, i32_w]; rw [c3b0]) | skip)
          have H' := Aside0.mk H
          clear H
          obtain ⟨ASz7_0, cSz7_0, HGz7, hgz7, HSz7_0⟩ := HI0.out
          have hcz7_0 := cellS137_0 HGz7
          have hcz7_1 := cellS137_1 HGz7
          have hcz7_2 := cellS137_2 HGz7
          have hcz7_3 := cellS137_3 HGz7
          have hfz7_1 := blk_frozen HGz7 1
          have hfz7_2 := blk_frozen HGz7 2
          have hfz7_3 := blk_frozen HGz7 3
          clear HGz7 hgz7
          go_wp2
          repeat (go_quiet (fail); try go_wp2)
          go_meet
          case rel => exact ⟨_, (false), (by first | rfl | (simp; done) | (simp [*]; done) | (simp [isE0, isE1]; done)), H', ⟨by have := HK1.out; first | omega | exact Nat.le_refl _⟩, ⟨by repeat (first | (with_reducible first | exact HI0.out | apply IsS137.alloc | apply IsS137.drewN | apply IsS137.drew | apply IsS137.set_1 | apply IsS137.set_2 | apply IsS137.set_3) | exact HI0.out)⟩, ⟨by repeat (first | (with_reducible first | exact HK.out | apply KeepBut.set_ | apply keep_drewN | apply keep_drew | apply keep_alloc) | exact HK.out)⟩, ⟨by repeat (first | (with_reducible first | exact HB.out | apply below_alloc | apply pw_below_drewN | apply below_drew1 | refine below_set ?_ (IsS137.ge HI0.out)) | exact HB.out)⟩⟩
      case rest =>
        clear HC2
        try clear c1
        try clear p2
        try clear c3
        try clear c3b0
        try clear c4
        try clear hcz5_0
        try clear hcz5_1
        try clear hcz5_2
        try clear hcz5_3
        try clear hcz6_0
        try clear hcz6_1
        try clear hcz6_2
        try clear hcz6_3
        try clear hcz7_0
        try clear hcz7_1
        try clear hcz7_2
        try clear hcz7_3
        try clear hfz5_1
        try clear hfz5_2
        try clear hfz5_3
        try clear hfz6_1
        try clear hfz6_2
        try clear hfz6_3
        try clear hfz7_1
        try clear hfz7_2
        try clear hfz7_3
        obtain ⟨kq, x29_1, rfl, HA, HJ1, HI0, HK, HB⟩ := hcut
        cases kq with
        | zero => exact absurd HA.out (by simp [spec_l13Climb_op.j1])
        | succ kj1 =>
          have H := HA.out
          clear HA
          simp only [spec_l13Climb_op.j1] at H
          by_cases c8 : x29_1 = true
          · subst c8
            have H1 : (if 0 ≤ s0_2 then (if s0_2 ≤ (wrap64 (s0_2 + 1)) then (if (wrap64 (s0_2 + 1)) ≤ (s0_1.size : Int) then (if 0 ≤ x3_1 then (if x3_1 < (s0_0.length : Int) then (if (s0_1.extract (s0_2 : Int).toNat ((wrap64 (s0_2 + 1)) : Int).toNat).toList = ((rd_T128 s0_0 x3_1).f0).toList then (some (x3_1, s0_1, s0_2, s0_3)) else (spec_l13Climb_op.l0 kj1 (wrap64 (x3_1 + 1)) s0_0 s0_1 s0_2 s0_3)) else (none)) else (none)) else (none)) else (none)) else (none)) = some (r1, r2, r3, r4) := by rw [if_pos rfl] at H; exact H
            clear H
            have H := H1
            clear H1
            by_cases c9 : 0 ≤ s0_2
            · rw [if_pos c9] at H
              have c9b0 := eq_true c9
              have c9b1 : decide (0 ≤ s0_2) = true := decide_eq_true c9
              clear c9
              by_cases c10 : s0_2 ≤ (wrap64 (s0_2 + 1))
              · rw [if_pos c10] at H
                have c10b0 := eq_true c10
                have c10b1 : decide (s0_2 ≤ (wrap64 (s0_2 + 1))) = true := decide_eq_true c10
                by_cases c11 : (wrap64 (s0_2 + 1)) ≤ (s0_1.size : Int)
                · rw [if_pos c11] at H
                  have c11b0 := eq_true c11
                  have c11b1 : decide ((wrap64 (s0_2 + 1)) ≤ (s0_1.size : Int)) = true := decide_eq_true c11
                  by_cases c12 : 0 ≤ x3_1
                  · rw [if_pos c12] at H
                    have c12b0 : decide (0 ≤ x3_1) = true := decide_eq_true c12
                    clear c12
                    by_cases c13 : x3_1 < (s0_0.length : Int)
                    · rw [if_pos c13] at H
                      have c13b0 : decide (x3_1 < (s0_0.length : Int)) = true := decide_eq_true c13
                      clear c13
                      by_cases c14 : (s0_1.extract (s0_2 : Int).toNat ((wrap64 (s0_2 + 1)) : Int).toNat).toList = ((rd_T128 s0_0 x3_1).f0).toList
                      · rw [if_pos c14] at H
                        have c14b0 : ((s0_1.extract (s0_2 : Int).toNat ((wrap64 (s0_2 + 1)) : Int).toNat).toList == ((rd_T128 s0_0 x3_1).f0).toList) = true := beq_iff_eq.mpr c14
                        have c14b1 : ((s0_1.extract (s0_2 : Int).toNat ((wrap64 (s0_2 + 1)) : Int).toNat).toList != ((rd_T128 s0_0 x3_1).f0).toList) = false := bne_eq_false_iff_eq.mpr c14
                        clear c14
                        simp only [Option.some.injEq, Prod.mk.injEq] at H
                        obtain ⟨rfl, rfl, rfl, rfl⟩ := H
                        obtain ⟨ASz15_0, cSz15_0, HGz15, hgz15, HSz15_0⟩ := HI0.out
                        have hcz15_0 := cellS137_0 HGz15
                        have hcz15_1 := cellS137_1 HGz15
                        have hcz15_2 := cellS137_2 HGz15
                        have hcz15_3 := cellS137_3 HGz15
                        have hfz15_1 := blk_frozen HGz15 1
                        have hfz15_2 := blk_frozen HGz15 2
                        have hfz15_3 := blk_frozen HGz15 3
                        clear HGz15 hgz15
                        have p169 : 0 ≤ (x3_1 : Int) := oa
                        have q169 : x3_1 < (s0_0.length : Int) := oa
                        obtain ⟨ad169, e169, hx169_0, hx169_1, hx169_2⟩ := at_T128 HSz15_0 x3_1 p169 q169
                        cases e169
                        replace hx169_0 := pw_cell_below HB.out hx169_0
                        replace hx169_1 := pw_cell_below HB.out hx169_1
                        replace hx169_2 := pw_cell_below HB.out hx169_2
                        replace p169 := eq_true p169
                        replace q169 := eq_true q169
                        go_wp2
                        repeat (go_quiet (fail); try go_wp2)
                        go_ret
                        exact ⟨by first | rfl | (simp [errW_none, errW_some] <;> rfl) | (simp [*, errW_none, errW_some] <;> rfl), by repeat (first | (with_reducible first | exact HI0.out | apply IsS137.alloc | apply IsS137.drewN | apply IsS137.drew | apply IsS137.set_1 | apply IsS137.set_2 | apply IsS137.set_3) | exact HI0.out), by repeat (first | (with_reducible first | exact HB.out | apply below_alloc | apply pw_below_drewN | apply below_drew1 | refine below_set ?_ (IsS137.ge HI0.out)) | exact HB.out), by repeat (first | (with_reducible first | exact HK.out | apply KeepBut.set_ | apply keep_drewN | apply keep_drew | apply keep_alloc) | exact HK.out)⟩
                      · rw [if_neg c14] at H
                        have c14b0 : ((s0_1.extract (s0_2 : Int).toNat ((wrap64 (s0_2 + 1)) : Int).toNat).toList == ((rd_T128 s0_0 x3_1).f0).toList) = false := beq_eq_false_iff_ne.mpr c14
                        have c14b1 : ((s0_1.extract (s0_2 : Int).toNat ((wrap64 (s0_2 + 1)) : Int).toNat).toList != ((rd_T128 s0_0 x3_1).f0).toList) = true := bne_iff_ne.mpr c14
                        have H' := Aside0.mk H
                        clear H
                        obtain ⟨ASz16_0, cSz16_0, HGz16, hgz16, HSz16_0⟩ := HI0.out
                        have hcz16_0 := cellS137_0 HGz16
                        have hcz16_1 := cellS137_1 HGz16
                        have hcz16_2 := cellS137_2 HGz16
                        have hcz16_3 := cellS137_3 HGz16
                        have hfz16_1 := blk_frozen HGz16 1
                        have hfz16_2 := blk_frozen HGz16 2
                        have hfz16_3 := blk_frozen HGz16 3
                        clear HGz16 hgz16
                        have p169 : 0 ≤ (x3_1 : Int) := oa
                        have q169 : x3_1 < (s0_0.length : Int) := oa
                        obtain ⟨ad169, e169, hx169_0, hx169_1, hx169_2⟩ := at_T128 HSz16_0 x3_1 p169 q169
                        cases e169
                        replace hx169_0 := pw_cell_below HB.out hx169_0
                        replace hx169_1 := pw_cell_below HB.out hx169_1
                        replace hx169_2 := pw_cell_below HB.out hx169_2
                        replace p169 := eq_true p169
                        replace q169 := eq_true q169
                        go_wp2
                        repeat (go_quiet (fail); try go_wp2)
                        go_roundg kj1
                        case measure => have := HK1.out; have := HJ1.out; omega
                        case rel => exact ⟨(wrap64 (x3_1 + 1)), (by first | rfl | (simp; done) | (simp [*]; done) | (simp [isE0, isE1]; done)), H', ⟨by have := HK1.out; have := HJ1.out; omega⟩, ⟨by repeat (first | (with_reducible first | exact HI0.out | apply IsS137.alloc | apply IsS137.drewN | apply IsS137.drew | apply IsS137.set_1 | apply IsS137.set_2 | apply IsS137.set_3) | exact HI0.out)⟩, ⟨by repeat (first | (with_reducible first | exact HK.out | apply KeepBut.set_ | apply keep_drewN | apply keep_drew | apply keep_alloc) | exact HK.out)⟩, ⟨by repeat (first | (with_reducible first | exact HB.out | apply below_alloc | apply pw_below_drewN | apply below_drew1 | refine below_set ?_ (IsS137.ge HI0.out)) | exact HB.out)⟩⟩
                    · rw [if_neg c13] at H
                      exact absurd H (by simp)
                  · rw [if_neg c12] at H
                    exact absurd H (by simp)
                · rw [if_neg c11] at H
                  exact absurd H (by simp)
              · rw [if_neg c10] at H
                exact absurd H (by simp)
            · rw [if_neg c9] at H
              exact absurd H (by simp)
          · replace c8 := Bool.eq_false_iff.mpr c8
            subst c8
            have H1 : (some ((-1), s0_1, s0_2, s0_3)) = some (r1, r2, r3, r4) := by rw [if_neg (show ¬ (false = true) by decide)] at H; exact H
            clear H
            have H := H1
            clear H1
            simp only [Option.some.injEq, Prod.mk.injEq] at H
            obtain ⟨rfl, rfl, rfl, rfl⟩ := H
            go_wp2
            repeat (go_quiet (fail); try go_wp2)
            go_ret
            exact ⟨by first | rfl | (simp [errW_none, errW_some] <;> rfl) | (simp [*, errW_none, errW_some] <;> rfl), by repeat (first | (with_reducible first | exact HI0.out | apply IsS137.alloc | apply IsS137.drewN | apply IsS137.drew | apply IsS137.set_1 | apply IsS137.set_2 | apply IsS137.set_3) | exact HI0.out), by repeat (first | (with_reducible first | exact HB.out | apply below_alloc | apply pw_below_drewN | apply below_drew1 | refine below_set ?_ (IsS137.ge HI0.out)) | exact HB.out), by repeat (first | (with_reducible first | exact HK.out | apply KeepBut.set_ | apply keep_drewN | apply keep_drew | apply keep_alloc) | exact HK.out)⟩

/-! ### spec_l10Figure: function 176 -/
def spec_l10Figure.f (a0 : Int) : Option (Bool) := if a0 ≥ 48 then (some (decide (a0 ≤ 57))) else (some false)
set_option maxHeartbeats 8000000 in
set_option maxRecDepth 100000 in
theorem spec_l10Figure.calls (a0 : Int) (r : Bool) (w : World) (h : spec_l10Figure.f a0 = some r) :
    Calls Try.prog 176 #[.int .u8 a0] w fun e w' => e = .returned (.bool r) ∧ Drawn0 w w' := by
  have H : (if a0 ≥ 48 then (some (decide (a0 ≤ 57))) else (some false)) = some r := h
  clear h
  by_cases c2 : a0 ≥ 48
  · rw [if_pos c2] at H
    have c2b0 : decide (48 ≤ a0) = true := decide_eq_true c2
    clear c2
    obtain rfl := Option.some.inj H
    go_enter Try.func176, Try.ntmps176
    go_wp2
    go_ret
    exact ⟨by first | rfl | (simp; done) | (simp [*]; done) | (simp [isE0, isE1]; done), by repeat (first | exact Drawn0.refl _ | apply Drawn0.step)⟩
  · rw [if_neg c2] at H
    have c2b0 : decide (48 ≤ a0) = false := decide_eq_false c2
    clear c2
    obtain rfl := Option.some.inj H
    go_enter Try.func176, Try.ntmps176
    go_wp2
    go_ret
    exact ⟨by first | rfl | (simp; done) | (simp [*]; done) | (simp [isE0, isE1]; done), by repeat (first | exact Drawn0.refl _ | apply Drawn0.step)⟩

/-! ### spec_l13Climb_atom: function 154 -/
def spec_l13Climb_atom.j0 (Fn_ : List (S128) → ByteArray → Int → Bool → Int → Option (ByteArray × ByteArray × Int × Bool)) : Nat → Bool → List (S128) → ByteArray → Int → Bool → Option (ByteArray × ByteArray × Int × Bool)
  | 0, _, _, _, _, _ => none
  | k + 1, x20, x1000, x1001, x1002, x1003 => if x20 = true then (some ((⟨#[]⟩ : ByteArray), x1001, x1002, true)) else (if 0 ≤ x1002 then (if x1002 < (x1001.size : Int) then ((spec_l10Figure.f (bt x1001 x1002)).bind fun t192 => (if t192 = true then (if 0 ≤ (wrap64 ((wrap64 (x1002 + 1)) - 1)) then (if (wrap64 ((wrap64 (x1002 + 1)) - 1)) ≤ (wrap64 (x1002 + 1)) then (if (wrap64 (x1002 + 1)) ≤ (x1001.size : Int) then (some (x1001.extract ((wrap64 ((wrap64 (x1002 + 1)) - 1)) : Int).toNat ((wrap64 (x1002 + 1)) : Int).toNat, x1001, wrap64 (x1002 + 1), x1003)) else (none)) else (none)) else (none)) else (if (bt x1001 x1002) = 40 then ((Fn_ x1000 x1001 (wrap64 (x1002 + 1)) x1003 0).bind fun bt193 => (if bt193.2.2.2 = true then (some ((⟨#[]⟩ : ByteArray), bt193.2.1, bt193.2.2.1, true)) else (if bt193.2.2.1 ≥ (bt193.2.1.size : Int) then (some ((⟨#[]⟩ : ByteArray), bt193.2.1, bt193.2.2.1, true)) else (if 0 ≤ bt193.2.2.1 then (if bt193.2.2.1 < (bt193.2.1.size : Int) then (if (bt bt193.2.1 bt193.2.2.1) = 41 then (some (bt193.1, bt193.2.1, wrap64 (bt193.2.2.1 + 1), bt193.2.2.2)) else (some ((⟨#[]⟩ : ByteArray), bt193.2.1, bt193.2.2.1, true))) else (none)) else (none))))) else (some ((⟨#[]⟩ : ByteArray), x1001, wrap64 (x1002 + 1), true))))) else (none)) else (none))
def spec_l13Climb_atom.f (Fn_ : List (S128) → ByteArray → Int → Bool → Int → Option (ByteArray × ByteArray × Int × Bool)) (k : Nat) (s0_0 : List (S128)) (s0_1 : ByteArray) (s0_2 : Int) (s0_3 : Bool) : Option (ByteArray × ByteArray × Int × Bool) := if s0_3 = true then (spec_l13Climb_atom.j0 Fn_ k true s0_0 s0_1 s0_2 s0_3) else (spec_l13Climb_atom.j0 Fn_ k (decide (s0_2 ≥ (s0_1.size : Int))) s0_0 s0_1 s0_2 s0_3)
theorem spec_l13Climb_atom.mono_l {Fn_ Fm_ : List (S128) → ByteArray → Int → Bool → Int → Option (ByteArray × ByteArray × Int × Bool)} (hF : ∀ y0 y1 y2 y3 y4, LeO (Fn_ y0 y1 y2 y3 y4) (Fm_ y0 y1 y2 y3 y4)) : ∀ k, (∀ y0 y1 y2 y3 y4, LeO (spec_l13Climb_atom.j0 Fn_ k y0 y1 y2 y3 y4) (spec_l13Climb_atom.j0 Fm_ (k + 1) y0 y1 y2 y3 y4))
  | 0 => fun _ _ _ _ _ r h => by simp [spec_l13Climb_atom.j0] at h
  | k + 1 => by
    have ih0 := spec_l13Climb_atom.mono_l hF k
    · intro y0 y1 y2 y3 y4
      unfold spec_l13Climb_atom.j0
      repeat' first
      | (with_reducible exact ih0 _ _ _ _ _)
      | (with_reducible exact hF _ _ _ _ _)
      | (with_reducible exact LeO.refl _)
      | (with_reducible exact LeO.none _)
      | (with_reducible refine LeO.ite ?_ ?_)
      | (with_reducible refine LeO.bind ?_ (fun _ => ?_))
      | exact ih0 _ _ _ _ _
      | exact hF _ _ _ _ _
      | exact LeO.none _
      | refine LeO.ite ?_ ?_
      | refine LeO.bind ?_ (fun _ => ?_)
theorem spec_l13Climb_atom.mono {Fn_ Fm_ : List (S128) → ByteArray → Int → Bool → Int → Option (ByteArray × ByteArray × Int × Bool)} (hF : ∀ y0 y1 y2 y3 y4, LeO (Fn_ y0 y1 y2 y3 y4) (Fm_ y0 y1 y2 y3 y4)) : ∀ a0 a1 a2 a3 k, LeO (spec_l13Climb_atom.f Fn_ k a0 a1 a2 a3) (spec_l13Climb_atom.f Fm_ (k + 1) a0 a1 a2 a3) := by
  intro a0 a1 a2 a3 k
  have ih0 := spec_l13Climb_atom.mono_l hF k
  unfold spec_l13Climb_atom.f
  repeat' first
      | (with_reducible exact ih0 _ _ _ _ _)
      | (with_reducible exact hF _ _ _ _ _)
      | (with_reducible exact LeO.refl _)
      | (with_reducible exact LeO.none _)
      | (with_reducible refine LeO.ite ?_ ?_)
      | (with_reducible refine LeO.bind ?_ (fun _ => ?_))
      | exact ih0 _ _ _ _ _
      | exact hF _ _ _ _ _
      | exact LeO.none _
      | refine LeO.ite ?_ ?_
      | refine LeO.bind ?_ (fun _ => ?_)
set_option maxHeartbeats 8000000 in
set_option maxRecDepth 100000 in
theorem spec_l13Climb_atom.calls (Fn_ : List (S128) → ByteArray → Int → Bool → Int → Option (ByteArray × ByteArray × Int × Bool)) (IHn_ : ∀ (g : Nat) (s0_0 : List (S128)) (s0_1 : ByteArray) (s0_2 : Int) (s0_3 : Bool) (a1 : Int) (r1 : ByteArray) (r2 : ByteArray) (r3 : Int) (r4 : Bool) (w0 w : World) (hI : IsS137 w0 w g s0_0 s0_1 s0_2 s0_3) (hB : Below w0.heap.size w0 w) (h : Fn_ s0_0 s0_1 s0_2 s0_3 a1 = some (r1, r2, r3, r4)), Calls Try.prog 94 #[.pointer (some ⟨g, 0, none⟩), .int .i64 a1] w fun e w' => e = .returned (.string r1) ∧ IsS137 w0 w' g s0_0 r2 r3 r4 ∧ Below w0.heap.size w0 w' ∧ KeepBut w w' g none) (k : Nat) (g : Nat) (s0_0 : List (S128)) (s0_1 : ByteArray) (s0_2 : Int) (s0_3 : Bool) (r1 : ByteArray) (r2 : ByteArray) (r3 : Int) (r4 : Bool) (w0 w : World) (hI : IsS137 w0 w g s0_0 s0_1 s0_2 s0_3) (hB : Below w0.heap.size w0 w) (h : spec_l13Climb_atom.f Fn_ k s0_0 s0_1 s0_2 s0_3 = some (r1, r2, r3, r4)) :
    Calls Try.prog 154 #[.pointer (some ⟨g, 0, none⟩)] w fun e w' => e = .returned (.string r1) ∧ IsS137 w0 w' g s0_0 r2 r3 r4 ∧ Below w0.heap.size w0 w' ∧ KeepBut w w' g none := by
  have HI0 := Aside0.mk hI
  have HK := Aside0.mk (KeepBut.refl w g none)
  have HL := Aside0.mk hB.size
  clear hI
  have HW0 := Aside0.mk hB.size
  have HB := Aside0.mk hB
  clear hB
  have H : (if s0_3 = true then (spec_l13Climb_atom.j0 Fn_ k true s0_0 s0_1 s0_2 s0_3) else (spec_l13Climb_atom.j0 Fn_ k (decide (s0_2 ≥ (s0_1.size : Int))) s0_0 s0_1 s0_2 s0_3)) = some (r1, r2, r3, r4) := h
  clear h
  have HC2 := Aside0.mk H
  clear H
  go_enter Try.func154, Try.ntmps154
  go_upto_region 1 with (fail)
  repeat (go_quiet (fail); go_upto_region 1 with (fail))
  go_cut [20] (fun v20 wc => ∃ (kq : Nat) (x20_1 : Bool), v20 = .bool x20_1 ∧ Aside0 (spec_l13Climb_atom.j0 Fn_ kq x20_1 s0_0 s0_1 s0_2 s0_3 = some (r1, r2, r3, r4)) ∧ Aside0 (kq ≤ k) ∧ Aside0 (IsS137 w0 wc g s0_0 s0_1 s0_2 s0_3) ∧ Aside0 (KeepBut w wc g none) ∧ Aside0 (Below w0.heap.size w0 wc))
  case first =>
    have H := HC2.out
    clear HC2
    by_cases c3 : s0_3 = true
    · subst c3
      have H1 : (spec_l13Climb_atom.j0 Fn_ k true s0_0 s0_1 s0_2 true) = some (r1, r2, r3, r4) := by rw [if_pos rfl] at H; exact H
      clear H
      have H := H1
      clear H1
      have H' := Aside0.mk H
      clear H
      obtain ⟨ASz4_0, cSz4_0, HGz4, hgz4, HSz4_0⟩ := HI0.out
      have hcz4_0 := cellS137_0 HGz4
      have hcz4_1 := cellS137_1 HGz4
      have hcz4_2 := cellS137_2 HGz4
      have hcz4_3 := cellS137_3 HGz4
      have hfz4_1 := blk_frozen HGz4 1
      have hfz4_2 := blk_frozen HGz4 2
      have hfz4_3 := blk_frozen HGz4 3
      clear HGz4 hgz4
      go_wp2
      repeat (go_quiet (fail); try go_wp2)
      go_meet
      case rel => exact ⟨_, (true), (by first | rfl | (simp; done) | (simp [*]; done) | (simp [isE0, isE1]; done)), H', ⟨by first | omega | exact Nat.le_refl _⟩, ⟨by repeat (first | (with_reducible first | exact HI0.out | apply IsS137.alloc | apply IsS137.drewN | apply IsS137.drew | apply IsS137.set_1 | apply IsS137.set_2 | apply IsS137.set_3) | exact HI0.out)⟩, ⟨by repeat (first | (with_reducible first | exact HK.out | apply KeepBut.set_ | apply keep_drewN | apply keep_drew | apply keep_alloc) | exact HK.out)⟩, ⟨by repeat (first | (with_reducible first | exact HB.out | apply below_alloc | apply pw_below_drewN | apply below_drew1 | refine below_set ?_ (IsS137.ge HI0.out)) | exact HB.out)⟩⟩
    · replace c3 := Bool.eq_false_iff.mpr c3
      subst c3
      have H1 : (spec_l13Climb_atom.j0 Fn_ k (decide (s0_2 ≥ (s0_1.size : Int))) s0_0 s0_1 s0_2 false) = some (r1, r2, r3, r4) := by rw [if_neg (show ¬ (false = true) by decide)] at H; exact H
      clear H
      have H := H1
      clear H1
      have H' := Aside0.mk H
      clear H
      obtain ⟨ASz5_0, cSz5_0, HGz5, hgz5, HSz5_0⟩ := HI0.out
      have hcz5_0 := cellS137_0 HGz5
      have hcz5_1 := cellS137_1 HGz5
      have hcz5_2 := cellS137_2 HGz5
      have hcz5_3 := cellS137_3 HGz5
      have hfz5_1 := blk_frozen HGz5 1
      have hfz5_2 := blk_frozen HGz5 2
      have hfz5_3 := blk_frozen HGz5 3
      clear HGz5 hgz5
      go_wp2
      repeat (go_quiet (fail); try go_wp2)
      go_meet
      case rel => exact ⟨_, (decide (s0_2 ≥ (s0_1.size : Int))), (by first | rfl | (simp; done) | (simp [*]; done) | (simp [isE0, isE1]; done)), H', ⟨by first | omega | exact Nat.le_refl _⟩, ⟨by repeat (first | (with_reducible first | exact HI0.out | apply IsS137.alloc | apply IsS137.drewN | apply IsS137.drew | apply IsS137.set_1 | apply IsS137.set_2 | apply IsS137.set_3) | exact HI0.out)⟩, ⟨by repeat (first | (with_reducible first | exact HK.out | apply KeepBut.set_ | apply keep_drewN | apply keep_drew | apply keep_alloc) | exact HK.out)⟩, ⟨by repeat (first | (with_reducible first | exact HB.out | apply below_alloc | apply pw_below_drewN | apply below_drew1 | refine below_set ?_ (IsS137.ge HI0.out)) | exact HB.out)⟩⟩
  case rest =>
    clear HC2
    try clear c1
    try clear p2
    try clear c3
    try clear hcz4_0
    try clear hcz4_1
    try clear hcz4_2
    try clear hcz4_3
    try clear hcz5_0
    try clear hcz5_1
    try clear hcz5_2
    try clear hcz5_3
    try clear hfz4_1
    try clear hfz4_2
    try clear hfz4_3
    try clear hfz5_1
    try clear hfz5_2
    try clear hfz5_3
    obtain ⟨kq, x20_1, rfl, HA, HJ1, HI0, HK, HB⟩ := hcut
    cases kq with
    | zero => exact absurd HA.out (by simp [spec_l13Climb_atom.j0])
    | succ kj1 =>
      have H := HA.out
      clear HA
      simp only [spec_l13Climb_atom.j0] at H
      by_cases c6 : x20_1 = true
      · subst c6
        have H1 : (some ((⟨#[]⟩ : ByteArray), s0_1, s0_2, true)) = some (r1, r2, r3, r4) := by rw [if_pos rfl] at H; exact H
        clear H
        have H := H1
        clear H1
        simp only [Option.some.injEq, Prod.mk.injEq] at H
        obtain ⟨rfl, rfl, rfl, rfl⟩ := H
        obtain ⟨ASz7_0, cSz7_0, HGz7, hgz7, HSz7_0⟩ := HI0.out
        have hcz7_0 := cellS137_0 HGz7
        have hcz7_1 := cellS137_1 HGz7
        have hcz7_2 := cellS137_2 HGz7
        have hcz7_3 := cellS137_3 HGz7
        have hfz7_1 := blk_frozen HGz7 1
        have hfz7_2 := blk_frozen HGz7 2
        have hfz7_3 := blk_frozen HGz7 3
        clear HGz7 hgz7
        go_wp2
        repeat (go_quiet (fail); try go_wp2)
        go_ret
        exact ⟨by first | rfl | (simp [errW_none, errW_some] <;> rfl) | (simp [*, errW_none, errW_some] <;> rfl), by repeat (first | (with_reducible first | exact HI0.out | apply IsS137.alloc | apply IsS137.drewN | apply IsS137.drew | apply IsS137.set_1 | apply IsS137.set_2 | apply IsS137.set_3) | exact HI0.out), by repeat (first | (with_reducible first | exact HB.out | apply below_alloc | apply pw_below_drewN | apply below_drew1 | refine below_set ?_ (IsS137.ge HI0.out)) | exact HB.out), by repeat (first | (with_reducible first | exact HK.out | apply KeepBut.set_ | apply keep_drewN | apply keep_drew | apply keep_alloc) | exact HK.out)⟩
      · replace c6 := Bool.eq_false_iff.mpr c6
        subst c6
        have H1 : (if 0 ≤ s0_2 then (if s0_2 < (s0_1.size : Int) then ((spec_l10Figure.f (bt s0_1 s0_2)).bind fun t192 => (if t192 = true then (if 0 ≤ (wrap64 ((wrap64 (s0_2 + 1)) - 1)) then (if (wrap64 ((wrap64 (s0_2 + 1)) - 1)) ≤ (wrap64 (s0_2 + 1)) then (if (wrap64 (s0_2 + 1)) ≤ (s0_1.size : Int) then (some (s0_1.extract ((wrap64 ((wrap64 (s0_2 + 1)) - 1)) : Int).toNat ((wrap64 (s0_2 + 1)) : Int).toNat, s0_1, wrap64 (s0_2 + 1), s0_3)) else (none)) else (none)) else (none)) else (if (bt s0_1 s0_2) = 40 then ((Fn_ s0_0 s0_1 (wrap64 (s0_2 + 1)) s0_3 0).bind fun bt193 => (if bt193.2.2.2 = true then (some ((⟨#[]⟩ : ByteArray), bt193.2.1, bt193.2.2.1, true)) else (if bt193.2.2.1 ≥ (bt193.2.1.size : Int) then (some ((⟨#[]⟩ : ByteArray), bt193.2.1, bt193.2.2.1, true)) else (if 0 ≤ bt193.2.2.1 then (if bt193.2.2.1 < (bt193.2.1.size : Int) then (if (bt bt193.2.1 bt193.2.2.1) = 41 then (some (bt193.1, bt193.2.1, wrap64 (bt193.2.2.1 + 1), bt193.2.2.2)) else (some ((⟨#[]⟩ : ByteArray), bt193.2.1, bt193.2.2.1, true))) else (none)) else (none))))) else (some ((⟨#[]⟩ : ByteArray), s0_1, wrap64 (s0_2 + 1), true))))) else (none)) else (none)) = some (r1, r2, r3, r4) := by rw [if_neg (show ¬ (false = true) by decide)] at H; exact H
        clear H
        have H := H1
        clear H1
        by_cases c8 : 0 ≤ s0_2
        · rw [if_pos c8] at H
          have c8b0 : decide (0 ≤ s0_2) = true := decide_eq_true c8
          clear c8
          by_cases c9 : s0_2 < (s0_1.size : Int)
          · rw [if_pos c9] at H
            have c9b0 : decide (s0_2 < (s0_1.size : Int)) = true := decide_eq_true c9
            clear c9
            replace H := Option.bind_eq_some_iff.mp H
            obtain ⟨t192, A110, H⟩ := H
            replace H : (if t192 = true then (if 0 ≤ (wrap64 ((wrap64 (s0_2 + 1)) - 1)) then (if (wrap64 ((wrap64 (s0_2 + 1)) - 1)) ≤ (wrap64 (s0_2 + 1)) then (if (wrap64 (s0_2 + 1)) ≤ (s0_1.size : Int) then (some (s0_1.extract ((wrap64 ((wrap64 (s0_2 + 1)) - 1)) : Int).toNat ((wrap64 (s0_2 + 1)) : Int).toNat, s0_1, wrap64 (s0_2 + 1), s0_3)) else (none)) else (none)) else (none)) else (if (bt s0_1 s0_2) = 40 then ((Fn_ s0_0 s0_1 (wrap64 (s0_2 + 1)) s0_3 0).bind fun bt193 => (if bt193.2.2.2 = true then (some ((⟨#[]⟩ : ByteArray), bt193.2.1, bt193.2.2.1, true)) else (if bt193.2.2.1 ≥ (bt193.2.1.size : Int) then (some ((⟨#[]⟩ : ByteArray), bt193.2.1, bt193.2.2.1, true)) else (if 0 ≤ bt193.2.2.1 then (if bt193.2.2.1 < (bt193.2.1.size : Int) then (if (bt bt193.2.1 bt193.2.2.1) = 41 then (some (bt193.1, bt193.2.1, wrap64 (bt193.2.2.1 + 1), bt193.2.2.2)) else (some ((⟨#[]⟩ : ByteArray), bt193.2.1, bt193.2.2.1, true))) else (none)) else (none))))) else (some ((⟨#[]⟩ : ByteArray), s0_1, wrap64 (s0_2 + 1), true)))) = some (r1, r2, r3, r4) := H
            have A11 := Aside0.mk A110
            clear A110
            by_cases c12 : t192 = true
            · subst c12
              have H1 : (if 0 ≤ (wrap64 ((wrap64 (s0_2 + 1)) - 1)) then (if (wrap64 ((wrap64 (s0_2 + 1)) - 1)) ≤ (wrap64 (s0_2 + 1)) then (if (wrap64 (s0_2 + 1)) ≤ (s0_1.size : Int) then (some (s0_1.extract ((wrap64 ((wrap64 (s0_2 + 1)) - 1)) : Int).toNat ((wrap64 (s0_2 + 1)) : Int).toNat, s0_1, wrap64 (s0_2 + 1), s0_3)) else (none)) else (none)) else (none)) = some (r1, r2, r3, r4) := by rw [if_pos rfl] at H; exact H
              clear H
              have H := H1
              clear H1
              obtain ⟨ji13, hji13⟩ : ∃ j_ : Int, (wrap64 ((wrap64 (s0_2 + 1)) - 1)) = j_ := ⟨_, rfl⟩
              replace H : (if 0 ≤ (ji13) then (if (ji13) ≤ (wrap64 (s0_2 + 1)) then (if (wrap64 (s0_2 + 1)) ≤ (s0_1.size : Int) then (some (s0_1.extract ((ji13) : Int).toNat ((wrap64 (s0_2 + 1)) : Int).toNat, s0_1, wrap64 (s0_2 + 1), s0_3)) else (none)) else (none)) else (none)) = some (r1, r2, r3, r4) := by first | (rw [hji13] at H; exact H) | (simp only [hji13] at H ⊢; exact H)
              (try rw [hji13] at A11)
              have hji13w : (IntKind.i64.wrap ((wrap64 (s0_2 + 1)) - 1)) = ji13 := (i64_w _).trans hji13
              by_cases c14 : 0 ≤ (ji13)
              · rw [if_pos c14] at H
                have c14b0 := eq_true c14
                have c14b1 : decide (0 ≤ (ji13)) = true := decide_eq_true c14
                clear c14
                by_cases c15 : (ji13) ≤ (wrap64 (s0_2 + 1))
                · rw [if_pos c15] at H
                  have c15b0 := eq_true c15
                  have c15b1 : decide ((ji13) ≤ (wrap64 (s0_2 + 1))) = true := decide_eq_true c15
                  by_cases c16 : (wrap64 (s0_2 + 1)) ≤ (s0_1.size : Int)
                  · rw [if_pos c16] at H
                    have c16b0 := eq_true c16
                    have c16b1 : decide ((wrap64 (s0_2 + 1)) ≤ (s0_1.size : Int)) = true := decide_eq_true c16
                    simp only [Option.some.injEq, Prod.mk.injEq] at H
                    obtain ⟨rfl, rfl, rfl, rfl⟩ := H
                    obtain ⟨ASz17_0, cSz17_0, HGz17, hgz17, HSz17_0⟩ := HI0.out
                    have hcz17_0 := cellS137_0 HGz17
                    have hcz17_1 := cellS137_1 HGz17
                    have hcz17_2 := cellS137_2 HGz17
                    have hcz17_3 := cellS137_3 HGz17
                    have hfz17_1 := blk_frozen HGz17 1
                    have hfz17_2 := blk_frozen HGz17 2
                    have hfz17_3 := blk_frozen HGz17 3
                    clear HGz17 hgz17
                    have p10 : 0 ≤ (s0_2 : Int) := oa
                    have q10 : s0_2 < (s0_1.size : Int) := oa
                    have hx10 := bt_at s0_1 s0_2
                    replace p10 := eq_true p10
                    replace q10 := eq_true q10
                    go_wp2_with (first | (go_at_call 176; (with_reducible refine (spec_l10Figure.calls (bt s0_1 s0_2) true _ A11.out).mono ?_); rintro e w' ⟨rfl, ⟨nd, rfl⟩⟩; (try first | exact ⟨rfl, _, World.drewN_drewN _ _ _⟩ | exact ⟨rfl, _, Eq.trans (World.drewN_drewN _ _ _) (congrArg (World.drewN _) (Nat.add_assoc _ _ _))⟩)))
                    repeat (go_quiet (first | (go_at_call 176; (with_reducible refine (spec_l10Figure.calls (bt s0_1 s0_2) true _ A11.out).mono ?_); rintro e w' ⟨rfl, ⟨nd, rfl⟩⟩; (try first | exact ⟨rfl, _, World.drewN_drewN _ _ _⟩ | exact ⟨rfl, _, Eq.trans (World.drewN_drewN _ _ _) (congrArg (World.drewN _) (Nat.add_assoc _ _ _))⟩))); try go_wp2_with (first | (go_at_call 176; (with_reducible refine (spec_l10Figure.calls (bt s0_1 s0_2) true _ A11.out).mono ?_); rintro e w' ⟨rfl, ⟨nd, rfl⟩⟩; (try first | exact ⟨rfl, _, World.drewN_drewN _ _ _⟩ | exact ⟨rfl, _, Eq.trans (World.drewN_drewN _ _ _) (congrArg (World.drewN _) (Nat.add_assoc _ _ _))⟩))))
                    go_ret
                    exact ⟨by first | rfl | (simp [errW_none, errW_some] <;> rfl) | (simp only [← hji13]; first | rfl | (simp [errW_none, errW_some] <;> rfl)) | (simp [*, errW_none, errW_some] <;> rfl), by repeat (first | (with_reducible first | exact HI0.out | apply IsS137.alloc | apply IsS137.drewN | apply IsS137.drew | apply IsS137.set_1 | apply IsS137.set_2 | apply IsS137.set_3) | exact HI0.out), by repeat (first | (with_reducible first | exact HB.out | apply below_alloc | apply pw_below_drewN | apply below_drew1 | refine below_set ?_ (IsS137.ge HI0.out)) | exact HB.out), by repeat (first | (with_reducible first | exact HK.out | apply KeepBut.set_ | apply keep_drewN | apply keep_drew | apply keep_alloc) | exact HK.out)⟩
                  · rw [if_neg c16] at H
                    exact absurd H (by simp)
                · rw [if_neg c15] at H
                  exact absurd H (by simp)
              · rw [if_neg c14] at H
                exact absurd H (by simp)
            · replace c12 := Bool.eq_false_iff.mpr c12
              subst c12
              have H1 : (if (bt s0_1 s0_2) = 40 then ((Fn_ s0_0 s0_1 (wrap64 (s0_2 + 1)) s0_3 0).bind fun bt193 => (if bt193.2.2.2 = true then (some ((⟨#[]⟩ : ByteArray), bt193.2.1, bt193.2.2.1, true)) else (if bt193.2.2.1 ≥ (bt193.2.1.size : Int) then (some ((⟨#[]⟩ : ByteArray), bt193.2.1, bt193.2.2.1, true)) else (if 0 ≤ bt193.2.2.1 then (if bt193.2.2.1 < (bt193.2.1.size : Int) then (if (bt bt193.2.1 bt193.2.2.1) = 41 then (some (bt193.1, bt193.2.1, wrap64 (bt193.2.2.1 + 1), bt193.2.2.2)) else (some ((⟨#[]⟩ : ByteArray), bt193.2.1, bt193.2.2.1, true))) else (none)) else (none))))) else (some ((⟨#[]⟩ : ByteArray), s0_1, wrap64 (s0_2 + 1), true))) = some (r1, r2, r3, r4) := by rw [if_neg (show ¬ (false = true) by decide)] at H; exact H
              clear H
              have H := H1
              clear H1
              by_cases c18 : (bt s0_1 s0_2) = 40
              · rw [if_pos c18] at H
                have c18b0 : ((bt s0_1 s0_2) == 40) = true := beq_iff_eq.mpr c18
                have c18b1 : ((bt s0_1 s0_2) != 40) = false := bne_eq_false_iff_eq.mpr c18
                clear c18
                replace H := Option.bind_eq_some_iff.mp H
                obtain ⟨⟨t193, t194, t195, t196⟩, A190, H⟩ := H
                replace H : (if t196 = true then (some ((⟨#[]⟩ : ByteArray), t194, t195, true)) else (if t195 ≥ (t194.size : Int) then (some ((⟨#[]⟩ : ByteArray), t194, t195, true)) else (if 0 ≤ t195 then (if t195 < (t194.size : Int) then (if (bt t194 t195) = 41 then (some (t193, t194, wrap64 (t195 + 1), t196)) else (some ((⟨#[]⟩ : ByteArray), t194, t195, true))) else (none)) else (none)))) = some (r1, r2, r3, r4) := H
                have A19 := Aside0.mk A190
                clear A190
                by_cases c20 : t196 = true
                · subst c20
                  have H1 : (some ((⟨#[]⟩ : ByteArray), t194, t195, true)) = some (r1, r2, r3, r4) := by rw [if_pos rfl] at H; exact H
                  clear H
                  have H := H1
                  clear H1
                  simp only [Option.some.injEq, Prod.mk.injEq] at H
                  obtain ⟨rfl, rfl, rfl, rfl⟩ := H
                  obtain ⟨ASz21_0, cSz21_0, HGz21, hgz21, HSz21_0⟩ := HI0.out
                  have hcz21_0 := cellS137_0 HGz21
                  have hcz21_1 := cellS137_1 HGz21
                  have hcz21_2 := cellS137_2 HGz21
                  have hcz21_3 := cellS137_3 HGz21
                  have hfz21_1 := blk_frozen HGz21 1
                  have hfz21_2 := blk_frozen HGz21 2
                  have hfz21_3 := blk_frozen HGz21 3
                  clear HGz21 hgz21
                  have p10 : 0 ≤ (s0_2 : Int) := oa
                  have q10 : s0_2 < (s0_1.size : Int) := oa
                  have hx10 := bt_at s0_1 s0_2
                  replace p10 := eq_true p10
                  replace q10 := eq_true q10
                  go_wp2_with (first | (go_at_call 176; (with_reducible refine (spec_l10Figure.calls (bt s0_1 s0_2) false _ A11.out).mono ?_); rintro e w' ⟨rfl, ⟨nd, rfl⟩⟩; (try first | exact ⟨rfl, _, World.drewN_drewN _ _ _⟩ | exact ⟨rfl, _, Eq.trans (World.drewN_drewN _ _ _) (congrArg (World.drewN _) (Nat.add_assoc _ _ _))⟩)) | (go_at_call 94; (with_reducible refine (IHn_ g s0_0 s0_1 (wrap64 (s0_2 + 1)) s0_3 0 t193 t194 t195 true w0 _ ?side1 ?side2 A19.out).mono ?_); (case side1 => repeat (first | (with_reducible first | exact HI0.out | apply IsS137.alloc | apply IsS137.drewN | apply IsS137.drew | apply IsS137.set_1 | apply IsS137.set_2 | apply IsS137.set_3) | exact HI0.out)); (case side2 => repeat (first | (with_reducible first | exact HB.out | apply below_alloc | apply pw_below_drewN | apply below_drew1 | refine below_set ?_ (IsS137.ge HI0.out)) | exact HB.out)); rintro e w22 ⟨rfl, hi, hb, hk⟩; have n0_ := Aside0.mk (KeepBut.trans (by repeat (first | (with_reducible first | exact HK.out | apply KeepBut.set_ | apply keep_drewN | apply keep_drew | apply keep_alloc) | exact HK.out)) hk (.inl rfl)); have n1_ := Aside0.mk (hb); have n2_ := Aside0.mk (hi); clear HK; clear HB; clear HI0; have HK := n0_; have HB := n1_; have HI0 := n2_; clear n0_ n1_ n2_; (try clear hb); (try clear hb2); (try clear hk); (try clear hi); obtain ⟨ASz23_0, cSz23_0, HGz23, hgz23, HSz23_0⟩ := HI0.out; have hcz23_0 := cellS137_0 HGz23; have hcz23_1 := cellS137_1 HGz23; have hcz23_2 := cellS137_2 HGz23; have hcz23_3 := cellS137_3 HGz23; have hfz23_1 := blk_frozen HGz23 1; have hfz23_2 := blk_frozen HGz23 2; have hfz23_3 := blk_frozen HGz23 3; clear HGz23 hgz23))
                  repeat (go_quiet (first | (go_at_call 176; (with_reducible refine (spec_l10Figure.calls (bt s0_1 s0_2) false _ A11.out).mono ?_); rintro e w' ⟨rfl, ⟨nd, rfl⟩⟩; (try first | exact ⟨rfl, _, World.drewN_drewN _ _ _⟩ | exact ⟨rfl, _, Eq.trans (World.drewN_drewN _ _ _) (congrArg (World.drewN _) (Nat.add_assoc _ _ _))⟩)) | (go_at_call 94; (with_reducible refine (IHn_ g s0_0 s0_1 (wrap64 (s0_2 + 1)) s0_3 0 t193 t194 t195 true w0 _ ?side1 ?side2 A19.out).mono ?_); (case side1 => repeat (first | (with_reducible first | exact HI0.out | apply IsS137.alloc | apply IsS137.drewN | apply IsS137.drew | apply IsS137.set_1 | apply IsS137.set_2 | apply IsS137.set_3) | exact HI0.out)); (case side2 => repeat (first | (with_reducible first | exact HB.out | apply below_alloc | apply pw_below_drewN | apply below_drew1 | refine below_set ?_ (IsS137.ge HI0.out)) | exact HB.out)); rintro e w22 ⟨rfl, hi, hb, hk⟩; have n0_ := Aside0.mk (KeepBut.trans (by repeat (first | (with_reducible first | exact HK.out | apply KeepBut.set_ | apply keep_drewN | apply keep_drew | apply keep_alloc) | exact HK.out)) hk (.inl rfl)); have n1_ := Aside0.mk (hb); have n2_ := Aside0.mk (hi); clear HK; clear HB; clear HI0; have HK := n0_; have HB := n1_; have HI0 := n2_; clear n0_ n1_ n2_; (try clear hb); (try clear hb2); (try clear hk); (try clear hi); obtain ⟨ASz23_0, cSz23_0, HGz23, hgz23, HSz23_0⟩ := HI0.out; have hcz23_0 := cellS137_0 HGz23; have hcz23_1 := cellS137_1 HGz23; have hcz23_2 := cellS137_2 HGz23; have hcz23_3 := cellS137_3 HGz23; have hfz23_1 := blk_frozen HGz23 1; have hfz23_2 := blk_frozen HGz23 2; have hfz23_3 := blk_frozen HGz23 3; clear HGz23 hgz23)); try go_wp2_with (first | (go_at_call 176; (with_reducible refine (spec_l10Figure.calls (bt s0_1 s0_2) false _ A11.out).mono ?_); rintro e w' ⟨rfl, ⟨nd, rfl⟩⟩; (try first | exact ⟨rfl, _, World.drewN_drewN _ _ _⟩ | exact ⟨rfl, _, Eq.trans (World.drewN_drewN _ _ _) (congrArg (World.drewN _) (Nat.add_assoc _ _ _))⟩)) | (go_at_call 94; (with_reducible refine (IHn_ g s0_0 s0_1 (wrap64 (s0_2 + 1)) s0_3 0 t193 t194 t195 true w0 _ ?side1 ?side2 A19.out).mono ?_); (case side1 => repeat (first | (with_reducible first | exact HI0.out | apply IsS137.alloc | apply IsS137.drewN | apply IsS137.drew | apply IsS137.set_1 | apply IsS137.set_2 | apply IsS137.set_3) | exact HI0.out)); (case side2 => repeat (first | (with_reducible first | exact HB.out | apply below_alloc | apply pw_below_drewN | apply below_drew1 | refine below_set ?_ (IsS137.ge HI0.out)) | exact HB.out)); rintro e w22 ⟨rfl, hi, hb, hk⟩; have n0_ := Aside0.mk (KeepBut.trans (by repeat (first | (with_reducible first | exact HK.out | apply KeepBut.set_ | apply keep_drewN | apply keep_drew | apply keep_alloc) | exact HK.out)) hk (.inl rfl)); have n1_ := Aside0.mk (hb); have n2_ := Aside0.mk (hi); clear HK; clear HB; clear HI0; have HK := n0_; have HB := n1_; have HI0 := n2_; clear n0_ n1_ n2_; (try clear hb); (try clear hb2); (try clear hk); (try clear hi); obtain ⟨ASz23_0, cSz23_0, HGz23, hgz23, HSz23_0⟩ := HI0.out; have hcz23_0 := cellS137_0 HGz23; have hcz23_1 := cellS137_1 HGz23; have hcz23_2 := cellS137_2 HGz23; have hcz23_3 := cellS137_3 HGz23; have hfz23_1 := blk_frozen HGz23 1; have hfz23_2 := blk_frozen HGz23 2; have hfz23_3 := blk_frozen HGz23 3; clear HGz23 hgz23)))
                  go_ret
                  exact ⟨by first | rfl | (simp [errW_none, errW_some] <;> rfl) | (simp [*, errW_none, errW_some] <;> rfl), by repeat (first | (with_reducible first | exact HI0.out | apply IsS137.alloc | apply IsS137.drewN | apply IsS137.drew | apply IsS137.set_1 | apply IsS137.set_2 | apply IsS137.set_3) | exact HI0.out), by repeat (first | (with_reducible first | exact HB.out | apply below_alloc | apply pw_below_drewN | apply below_drew1 | refine below_set ?_ (IsS137.ge HI0.out)) | exact HB.out), by repeat (first | (with_reducible first | exact HK.out | apply KeepBut.set_ | apply keep_drewN | apply keep_drew | apply keep_alloc) | exact HK.out)⟩
                · replace c20 := Bool.eq_false_iff.mpr c20
                  subst c20
                  have H1 : (if t195 ≥ (t194.size : Int) then (some ((⟨#[]⟩ : ByteArray), t194, t195, true)) else (if 0 ≤ t195 then (if t195 < (t194.size : Int) then (if (bt t194 t195) = 41 then (some (t193, t194, wrap64 (t195 + 1), false)) else (some ((⟨#[]⟩ : ByteArray), t194, t195, true))) else (none)) else (none))) = some (r1, r2, r3, r4) := by rw [if_neg (show ¬ (false = true) by decide)] at H; exact H
                  clear H
                  have H := H1
                  clear H1
                  by_cases c24 : t195 ≥ (t194.size : Int)
                  · rw [if_pos c24] at H
                    have c24b0 : decide ((t194.size : Int) ≤ t195) = true := decide_eq_true c24
                    clear c24
                    simp only [Option.some.injEq, Prod.mk.injEq] at H
                    obtain ⟨rfl, rfl, rfl, rfl⟩ := H
                    obtain ⟨ASz25_0, cSz25_0, HGz25, hgz25, HSz25_0⟩ := HI0.out
                    have hcz25_0 := cellS137_0 HGz25
                    have hcz25_1 := cellS137_1 HGz25
                    have hcz25_2 := cellS137_2 HGz25
                    have hcz25_3 := cellS137_3 HGz25
                    have hfz25_1 := blk_frozen HGz25 1
                    have hfz25_2 := blk_frozen HGz25 2
                    have hfz25_3 := blk_frozen HGz25 3
                    clear HGz25 hgz25
                    have p10 : 0 ≤ (s0_2 : Int) := oa
                    have q10 : s0_2 < (s0_1.size : Int) := oa
                    have hx10 := bt_at s0_1 s0_2
                    replace p10 := eq_true p10
                    replace q10 := eq_true q10
                    go_wp2_with (first | (go_at_call 176; (with_reducible refine (spec_l10Figure.calls (bt s0_1 s0_2) false _ A11.out).mono ?_); rintro e w' ⟨rfl, ⟨nd, rfl⟩⟩; (try first | exact ⟨rfl, _, World.drewN_drewN _ _ _⟩ | exact ⟨rfl, _, Eq.trans (World.drewN_drewN _ _ _) (congrArg (World.drewN _) (Nat.add_assoc _ _ _))⟩)) | (go_at_call 94; (with_reducible refine (IHn_ g s0_0 s0_1 (wrap64 (s0_2 + 1)) s0_3 0 t193 t194 t195 false w0 _ ?side1 ?side2 A19.out).mono ?_); (case side1 => repeat (first | (with_reducible first | exact HI0.out | apply IsS137.alloc | apply IsS137.drewN | apply IsS137.drew | apply IsS137.set_1 | apply IsS137.set_2 | apply IsS137.set_3) | exact HI0.out)); (case side2 => repeat (first | (with_reducible first | exact HB.out | apply below_alloc | apply pw_below_drewN | apply below_drew1 | refine below_set ?_ (IsS137.ge HI0.out)) | exact HB.out)); rintro e w26 ⟨rfl, hi, hb, hk⟩; have n0_ := Aside0.mk (KeepBut.trans (by repeat (first | (with_reducible first | exact HK.out | apply KeepBut.set_ | apply keep_drewN | apply keep_drew | apply keep_alloc) | exact HK.out)) hk (.inl rfl)); have n1_ := Aside0.mk (hb); have n2_ := Aside0.mk (hi); clear HK; clear HB; clear HI0; have HK := n0_; have HB := n1_; have HI0 := n2_; clear n0_ n1_ n2_; (try clear hb); (try clear hb2); (try clear hk); (try clear hi); obtain ⟨ASz27_0, cSz27_0, HGz27, hgz27, HSz27_0⟩ := HI0.out; have hcz27_0 := cellS137_0 HGz27; have hcz27_1 := cellS137_1 HGz27; have hcz27_2 := cellS137_2 HGz27; have hcz27_3 := cellS137_3 HGz27; have hfz27_1 := blk_frozen HGz27 1; have hfz27_2 := blk_frozen HGz27 2; have hfz27_3 := blk_frozen HGz27 3; clear HGz27 hgz27))
                    repeat (go_quiet (first | (go_at_call 176; (with_reducible refine (spec_l10Figure.calls (bt s0_1 s0_2) false _ A11.out).mono ?_); rintro e w' ⟨rfl, ⟨nd, rfl⟩⟩; (try first | exact ⟨rfl, _, World.drewN_drewN _ _ _⟩ | exact ⟨rfl, _, Eq.trans (World.drewN_drewN _ _ _) (congrArg (World.drewN _) (Nat.add_assoc _ _ _))⟩)) | (go_at_call 94; (with_reducible refine (IHn_ g s0_0 s0_1 (wrap64 (s0_2 + 1)) s0_3 0 t193 t194 t195 false w0 _ ?side1 ?side2 A19.out).mono ?_); (case side1 => repeat (first | (with_reducible first | exact HI0.out | apply IsS137.alloc | apply IsS137.drewN | apply IsS137.drew | apply IsS137.set_1 | apply IsS137.set_2 | apply IsS137.set_3) | exact HI0.out)); (case side2 => repeat (first | (with_reducible first | exact HB.out | apply below_alloc | apply pw_below_drewN | apply below_drew1 | refine below_set ?_ (IsS137.ge HI0.out)) | exact HB.out)); rintro e w26 ⟨rfl, hi, hb, hk⟩; have n0_ := Aside0.mk (KeepBut.trans (by repeat (first | (with_reducible first | exact HK.out | apply KeepBut.set_ | apply keep_drewN | apply keep_drew | apply keep_alloc) | exact HK.out)) hk (.inl rfl)); have n1_ := Aside0.mk (hb); have n2_ := Aside0.mk (hi); clear HK; clear HB; clear HI0; have HK := n0_; have HB := n1_; have HI0 := n2_; clear n0_ n1_ n2_; (try clear hb); (try clear hb2); (try clear hk); (try clear hi); obtain ⟨ASz27_0, cSz27_0, HGz27, hgz27, HSz27_0⟩ := HI0.out; have hcz27_0 := cellS137_0 HGz27; have hcz27_1 := cellS137_1 HGz27; have hcz27_2 := cellS137_2 HGz27; have hcz27_3 := cellS137_3 HGz27; have hfz27_1 := blk_frozen HGz27 1; have hfz27_2 := blk_frozen HGz27 2; have hfz27_3 := blk_frozen HGz27 3; clear HGz27 hgz27)); try go_wp2_with (first | (go_at_call 176; (with_reducible refine (spec_l10Figure.calls (bt s0_1 s0_2) false _ A11.out).mono ?_); rintro e w' ⟨rfl, ⟨nd, rfl⟩⟩; (try first | exact ⟨rfl, _, World.drewN_drewN _ _ _⟩ | exact ⟨rfl, _, Eq.trans (World.drewN_drewN _ _ _) (congrArg (World.drewN _) (Nat.add_assoc _ _ _))⟩)) | (go_at_call 94; (with_reducible refine (IHn_ g s0_0 s0_1 (wrap64 (s0_2 + 1)) s0_3 0 t193 t194 t195 false w0 _ ?side1 ?side2 A19.out).mono ?_); (case side1 => repeat (first | (with_reducible first | exact HI0.out | apply IsS137.alloc | apply IsS137.drewN | apply IsS137.drew | apply IsS137.set_1 | apply IsS137.set_2 | apply IsS137.set_3) | exact HI0.out)); (case side2 => repeat (first | (with_reducible first | exact HB.out | apply below_alloc | apply pw_below_drewN | apply below_drew1 | refine below_set ?_ (IsS137.ge HI0.out)) | exact HB.out)); rintro e w26 ⟨rfl, hi, hb, hk⟩; have n0_ := Aside0.mk (KeepBut.trans (by repeat (first | (with_reducible first | exact HK.out | apply KeepBut.set_ | apply keep_drewN | apply keep_drew | apply keep_alloc) | exact HK.out)) hk (.inl rfl)); have n1_ := Aside0.mk (hb); have n2_ := Aside0.mk (hi); clear HK; clear HB; clear HI0; have HK := n0_; have HB := n1_; have HI0 := n2_; clear n0_ n1_ n2_; (try clear hb); (try clear hb2); (try clear hk); (try clear hi); obtain ⟨ASz27_0, cSz27_0, HGz27, hgz27, HSz27_0⟩ := HI0.out; have hcz27_0 := cellS137_0 HGz27; have hcz27_1 := cellS137_1 HGz27; have hcz27_2 := cellS137_2 HGz27; have hcz27_3 := cellS137_3 HGz27; have hfz27_1 := blk_frozen HGz27 1; have hfz27_2 := blk_frozen HGz27 2; have hfz27_3 := blk_frozen HGz27 3; clear HGz27 hgz27)))
                    go_ret
                    exact ⟨by first | rfl | (simp [errW_none, errW_some] <;> rfl) | (simp [*, errW_none, errW_some] <;> rfl), by repeat (first | (with_reducible first | exact HI0.out | apply IsS137.alloc | apply IsS137.drewN | apply IsS137.drew | apply IsS137.set_1 | apply IsS137.set_2 | apply IsS137.set_3) | exact HI0.out), by repeat (first | (with_reducible first | exact HB.out | apply below_alloc | apply pw_below_drewN | apply below_drew1 | refine below_set ?_ (IsS137.ge HI0.out)) | exact HB.out), by repeat (first | (with_reducible first | exact HK.out | apply KeepBut.set_ | apply keep_drewN | apply keep_drew | apply keep_alloc) | exact HK.out)⟩
                  · rw [if_neg c24] at H
                    have c24b0 : decide ((t194.size : Int) ≤ t195) = false := decide_eq_false c24
                    clear c24
                    by_cases c28 : 0 ≤ t195
                    · rw [if_pos c28] at H
                      have c28b0 : decide (0 ≤ t195) = true := decide_eq_true c28
                      clear c28
                      by_cases c29 : t195 < (t194.size : Int)
                      · rw [if_pos c29] at H
                        have c29b0 : decide (t195 < (t194.size : Int)) = true := decide_eq_true c29
                        clear c29
                        by_cases c31 : (bt t194 t195) = 41
                        · rw [if_pos c31] at H
                          have c31b0 : ((bt t194 t195) == 41) = true := beq_iff_eq.mpr c31
                          have c31b1 : ((bt t194 t195) != 41) = false := bne_eq_false_iff_eq.mpr c31
                          clear c31
                          simp only [Option.some.injEq, Prod.mk.injEq] at H
                          obtain ⟨rfl, rfl, rfl, rfl⟩ := H
                          obtain ⟨ASz32_0, cSz32_0, HGz32, hgz32, HSz32_0⟩ := HI0.out
                          have hcz32_0 := cellS137_0 HGz32
                          have hcz32_1 := cellS137_1 HGz32
                          have hcz32_2 := cellS137_2 HGz32
                          have hcz32_3 := cellS137_3 HGz32
                          have hfz32_1 := blk_frozen HGz32 1
                          have hfz32_2 := blk_frozen HGz32 2
                          have hfz32_3 := blk_frozen HGz32 3
                          clear HGz32 hgz32
                          have p10 : 0 ≤ (s0_2 : Int) := oa
                          have q10 : s0_2 < (s0_1.size : Int) := oa
                          have hx10 := bt_at s0_1 s0_2
                          replace p10 := eq_true p10
                          replace q10 := eq_true q10
                          go_wp2_with (first | (go_at_call 176; (with_reducible refine (spec_l10Figure.calls (bt s0_1 s0_2) false _ A11.out).mono ?_); rintro e w' ⟨rfl, ⟨nd, rfl⟩⟩; (try first | exact ⟨rfl, _, World.drewN_drewN _ _ _⟩ | exact ⟨rfl, _, Eq.trans (World.drewN_drewN _ _ _) (congrArg (World.drewN _) (Nat.add_assoc _ _ _))⟩)) | (go_at_call 94; (with_reducible refine (IHn_ g s0_0 s0_1 (wrap64 (s0_2 + 1)) s0_3 0 t193 t194 t195 false w0 _ ?side1 ?side2 A19.out).mono ?_); (case side1 => repeat (first | (with_reducible first | exact HI0.out | apply IsS137.alloc | apply IsS137.drewN | apply IsS137.drew | apply IsS137.set_1 | apply IsS137.set_2 | apply IsS137.set_3) | exact HI0.out)); (case side2 => repeat (first | (with_reducible first | exact HB.out | apply below_alloc | apply pw_below_drewN | apply below_drew1 | refine below_set ?_ (IsS137.ge HI0.out)) | exact HB.out)); rintro e w33 ⟨rfl, hi, hb, hk⟩; have n0_ := Aside0.mk (KeepBut.trans (by repeat (first | (with_reducible first | exact HK.out | apply KeepBut.set_ | apply keep_drewN | apply keep_drew | apply keep_alloc) | exact HK.out)) hk (.inl rfl)); have n1_ := Aside0.mk (hb); have n2_ := Aside0.mk (hi); clear HK; clear HB; clear HI0; have HK := n0_; have HB := n1_; have HI0 := n2_; clear n0_ n1_ n2_; (try clear hb); (try clear hb2); (try clear hk); (try clear hi); obtain ⟨ASz34_0, cSz34_0, HGz34, hgz34, HSz34_0⟩ := HI0.out; have hcz34_0 := cellS137_0 HGz34; have hcz34_1 := cellS137_1 HGz34; have hcz34_2 := cellS137_2 HGz34; have hcz34_3 := cellS137_3 HGz34; have hfz34_1 := blk_frozen HGz34 1; have hfz34_2 := blk_frozen HGz34 2; have hfz34_3 := blk_frozen HGz34 3; clear HGz34 hgz34; have p30 : 0 ≤ (t195 : Int) := oa; have q30 : t195 < (t194.size : Int) := oa; have hx30 := bt_at t194 t195; replace p30 := eq_true p30; replace q30 := eq_true q30))
                          repeat (go_quiet (first | (go_at_call 176; (with_reducible refine (spec_l10Figure.calls (bt s0_1 s0_2) false _ A11.out).mono ?_); rintro e w' ⟨rfl, ⟨nd, rfl⟩⟩; (try first | exact ⟨rfl, _, World.drewN_drewN _ _ _⟩ | exact ⟨rfl, _, Eq.trans (World.drewN_drewN _ _ _) (congrArg (World.drewN _) (Nat.add_assoc _ _ _))⟩)) | (go_at_call 94; (with_reducible refine (IHn_ g s0_0 s0_1 (wrap64 (s0_2 + 1)) s0_3 0 t193 t194 t195 false w0 _ ?side1 ?side2 A19.out).mono ?_); (case side1 => repeat (first | (with_reducible first | exact HI0.out | apply IsS137.alloc | apply IsS137.drewN | apply IsS137.drew | apply IsS137.set_1 | apply IsS137.set_2 | apply IsS137.set_3) | exact HI0.out)); (case side2 => repeat (first | (with_reducible first | exact HB.out | apply below_alloc | apply pw_below_drewN | apply below_drew1 | refine below_set ?_ (IsS137.ge HI0.out)) | exact HB.out)); rintro e w33 ⟨rfl, hi, hb, hk⟩; have n0_ := Aside0.mk (KeepBut.trans (by repeat (first | (with_reducible first | exact HK.out | apply KeepBut.set_ | apply keep_drewN | apply keep_drew | apply keep_alloc) | exact HK.out)) hk (.inl rfl)); have n1_ := Aside0.mk (hb); have n2_ := Aside0.mk (hi); clear HK; clear HB; clear HI0; have HK := n0_; have HB := n1_; have HI0 := n2_; clear n0_ n1_ n2_; (try clear hb); (try clear hb2); (try clear hk); (try clear hi); obtain ⟨ASz34_0, cSz34_0, HGz34, hgz34, HSz34_0⟩ := HI0.out; have hcz34_0 := cellS137_0 HGz34; have hcz34_1 := cellS137_1 HGz34; have hcz34_2 := cellS137_2 HGz34; have hcz34_3 := cellS137_3 HGz34; have hfz34_1 := blk_frozen HGz34 1; have hfz34_2 := blk_frozen HGz34 2; have hfz34_3 := blk_frozen HGz34 3; clear HGz34 hgz34; have p30 : 0 ≤ (t195 : Int) := oa; have q30 : t195 < (t194.size : Int) := oa; have hx30 := bt_at t194 t195; replace p30 := eq_true p30; replace q30 := eq_true q30)); try go_wp2_with (first | (go_at_call 176; (with_reducible refine (spec_l10Figure.calls (bt s0_1 s0_2) false _ A11.out).mono ?_); rintro e w' ⟨rfl, ⟨nd, rfl⟩⟩; (try first | exact ⟨rfl, _, World.drewN_drewN _ _ _⟩ | exact ⟨rfl, _, Eq.trans (World.drewN_drewN _ _ _) (congrArg (World.drewN _) (Nat.add_assoc _ _ _))⟩)) | (go_at_call 94; (with_reducible refine (IHn_ g s0_0 s0_1 (wrap64 (s0_2 + 1)) s0_3 0 t193 t194 t195 false w0 _ ?side1 ?side2 A19.out).mono ?_); (case side1 => repeat (first | (with_reducible first | exact HI0.out | apply IsS137.alloc | apply IsS137.drewN | apply IsS137.drew | apply IsS137.set_1 | apply IsS137.set_2 | apply IsS137.set_3) | exact HI0.out)); (case side2 => repeat (first | (with_reducible first | exact HB.out | apply below_alloc | apply pw_below_drewN | apply below_drew1 | refine below_set ?_ (IsS137.ge HI0.out)) | exact HB.out)); rintro e w33 ⟨rfl, hi, hb, hk⟩; have n0_ := Aside0.mk (KeepBut.trans (by repeat (first | (with_reducible first | exact HK.out | apply KeepBut.set_ | apply keep_drewN | apply keep_drew | apply keep_alloc) | exact HK.out)) hk (.inl rfl)); have n1_ := Aside0.mk (hb); have n2_ := Aside0.mk (hi); clear HK; clear HB; clear HI0; have HK := n0_; have HB := n1_; have HI0 := n2_; clear n0_ n1_ n2_; (try clear hb); (try clear hb2); (try clear hk); (try clear hi); obtain ⟨ASz34_0, cSz34_0, HGz34, hgz34, HSz34_0⟩ := HI0.out; have hcz34_0 := cellS137_0 HGz34; have hcz34_1 := cellS137_1 HGz34; have hcz34_2 := cellS137_2 HGz34; have hcz34_3 := cellS137_3 HGz34; have hfz34_1 := blk_frozen HGz34 1; have hfz34_2 := blk_frozen HGz34 2; have hfz34_3 := blk_frozen HGz34 3; clear HGz34 hgz34; have p30 : 0 ≤ (t195 : Int) := oa; have q30 : t195 < (t194.size : Int) := oa; have hx30 := bt_at t194 t195; replace p30 := eq_true p30; replace q30 := eq_true q30)))
                          go_ret
                          exact ⟨by first | rfl | (simp [errW_none, errW_some] <;> rfl) | (simp [*, errW_none, errW_some] <;> rfl), by repeat (first | (with_reducible first | exact HI0.out | apply IsS137.alloc | apply IsS137.drewN | apply IsS137.drew | apply IsS137.set_1 | apply IsS137.set_2 | apply IsS137.set_3) | exact HI0.out), by repeat (first | (with_reducible first | exact HB.out | apply below_alloc | apply pw_below_drewN | apply below_drew1 | refine below_set ?_ (IsS137.ge HI0.out)) | exact HB.out), by repeat (first | (with_reducible first | exact HK.out | apply KeepBut.set_ | apply keep_drewN | apply keep_drew | apply keep_alloc) | exact HK.out)⟩
                        · rw [if_neg c31] at H
                          have c31b0 : ((bt t194 t195) == 41) = false := beq_eq_false_iff_ne.mpr c31
                          have c31b1 : ((bt t194 t195) != 41) = true := bne_iff_ne.mpr c31
                          simp only [Option.some.injEq, Prod.mk.injEq] at H
                          obtain ⟨rfl, rfl, rfl, rfl⟩ := H
                          obtain ⟨ASz35_0, cSz35_0, HGz35, hgz35, HSz35_0⟩ := HI0.out
                          have hcz35_0 := cellS137_0 HGz35
                          have hcz35_1 := cellS137_1 HGz35
                          have hcz35_2 := cellS137_2 HGz35
                          have hcz35_3 := cellS137_3 HGz35
                          have hfz35_1 := blk_frozen HGz35 1
                          have hfz35_2 := blk_frozen HGz35 2
                          have hfz35_3 := blk_frozen HGz35 3
                          clear HGz35 hgz35
                          have p10 : 0 ≤ (s0_2 : Int) := oa
                          have q10 : s0_2 < (s0_1.size : Int) := oa
                          have hx10 := bt_at s0_1 s0_2
                          replace p10 := eq_true p10
                          replace q10 := eq_true q10
                          go_wp2_with (first | (go_at_call 176; (with_reducible refine (spec_l10Figure.calls (bt s0_1 s0_2) false _ A11.out).mono ?_); rintro e w' ⟨rfl, ⟨nd, rfl⟩⟩; (try first | exact ⟨rfl, _, World.drewN_drewN _ _ _⟩ | exact ⟨rfl, _, Eq.trans (World.drewN_drewN _ _ _) (congrArg (World.drewN _) (Nat.add_assoc _ _ _))⟩)) | (go_at_call 94; (with_reducible refine (IHn_ g s0_0 s0_1 (wrap64 (s0_2 + 1)) s0_3 0 t193 t194 t195 false w0 _ ?side1 ?side2 A19.out).mono ?_); (case side1 => repeat (first | (with_reducible first | exact HI0.out | apply IsS137.alloc | apply IsS137.drewN | apply IsS137.drew | apply IsS137.set_1 | apply IsS137.set_2 | apply IsS137.set_3) | exact HI0.out)); (case side2 => repeat (first | (with_reducible first | exact HB.out | apply below_alloc | apply pw_below_drewN | apply below_drew1 | refine below_set ?_ (IsS137.ge HI0.out)) | exact HB.out)); rintro e w36 ⟨rfl, hi, hb, hk⟩; have n0_ := Aside0.mk (KeepBut.trans (by repeat (first | (with_reducible first | exact HK.out | apply KeepBut.set_ | apply keep_drewN | apply keep_drew | apply keep_alloc) | exact HK.out)) hk (.inl rfl)); have n1_ := Aside0.mk (hb); have n2_ := Aside0.mk (hi); clear HK; clear HB; clear HI0; have HK := n0_; have HB := n1_; have HI0 := n2_; clear n0_ n1_ n2_; (try clear hb); (try clear hb2); (try clear hk); (try clear hi); obtain ⟨ASz37_0, cSz37_0, HGz37, hgz37, HSz37_0⟩ := HI0.out; have hcz37_0 := cellS137_0 HGz37; have hcz37_1 := cellS137_1 HGz37; have hcz37_2 := cellS137_2 HGz37; have hcz37_3 := cellS137_3 HGz37; have hfz37_1 := blk_frozen HGz37 1; have hfz37_2 := blk_frozen HGz37 2; have hfz37_3 := blk_frozen HGz37 3; clear HGz37 hgz37; have p30 : 0 ≤ (t195 : Int) := oa; have q30 : t195 < (t194.size : Int) := oa; have hx30 := bt_at t194 t195; replace p30 := eq_true p30; replace q30 := eq_true q30))
                          repeat (go_quiet (first | (go_at_call 176; (with_reducible refine (spec_l10Figure.calls (bt s0_1 s0_2) false _ A11.out).mono ?_); rintro e w' ⟨rfl, ⟨nd, rfl⟩⟩; (try first | exact ⟨rfl, _, World.drewN_drewN _ _ _⟩ | exact ⟨rfl, _, Eq.trans (World.drewN_drewN _ _ _) (congrArg (World.drewN _) (Nat.add_assoc _ _ _))⟩)) | (go_at_call 94; (with_reducible refine (IHn_ g s0_0 s0_1 (wrap64 (s0_2 + 1)) s0_3 0 t193 t194 t195 false w0 _ ?side1 ?side2 A19.out).mono ?_); (case side1 => repeat (first | (with_reducible first | exact HI0.out | apply IsS137.alloc | apply IsS137.drewN | apply IsS137.drew | apply IsS137.set_1 | apply IsS137.set_2 | apply IsS137.set_3) | exact HI0.out)); (case side2 => repeat (first | (with_reducible first | exact HB.out | apply below_alloc | apply pw_below_drewN | apply below_drew1 | refine below_set ?_ (IsS137.ge HI0.out)) | exact HB.out)); rintro e w36 ⟨rfl, hi, hb, hk⟩; have n0_ := Aside0.mk (KeepBut.trans (by repeat (first | (with_reducible first | exact HK.out | apply KeepBut.set_ | apply keep_drewN | apply keep_drew | apply keep_alloc) | exact HK.out)) hk (.inl rfl)); have n1_ := Aside0.mk (hb); have n2_ := Aside0.mk (hi); clear HK; clear HB; clear HI0; have HK := n0_; have HB := n1_; have HI0 := n2_; clear n0_ n1_ n2_; (try clear hb); (try clear hb2); (try clear hk); (try clear hi); obtain ⟨ASz37_0, cSz37_0, HGz37, hgz37, HSz37_0⟩ := HI0.out; have hcz37_0 := cellS137_0 HGz37; have hcz37_1 := cellS137_1 HGz37; have hcz37_2 := cellS137_2 HGz37; have hcz37_3 := cellS137_3 HGz37; have hfz37_1 := blk_frozen HGz37 1; have hfz37_2 := blk_frozen HGz37 2; have hfz37_3 := blk_frozen HGz37 3; clear HGz37 hgz37; have p30 : 0 ≤ (t195 : Int) := oa; have q30 : t195 < (t194.size : Int) := oa; have hx30 := bt_at t194 t195; replace p30 := eq_true p30; replace q30 := eq_true q30)); try go_wp2_with (first | (go_at_call 176; (with_reducible refine (spec_l10Figure.calls (bt s0_1 s0_2) false _ A11.out).mono ?_); rintro e w' ⟨rfl, ⟨nd, rfl⟩⟩; (try first | exact ⟨rfl, _, World.drewN_drewN _ _ _⟩ | exact ⟨rfl, _, Eq.trans (World.drewN_drewN _ _ _) (congrArg (World.drewN _) (Nat.add_assoc _ _ _))⟩)) | (go_at_call 94; (with_reducible refine (IHn_ g s0_0 s0_1 (wrap64 (s0_2 + 1)) s0_3 0 t193 t194 t195 false w0 _ ?side1 ?side2 A19.out).mono ?_); (case side1 => repeat (first | (with_reducible first | exact HI0.out | apply IsS137.alloc | apply IsS137.drewN | apply IsS137.drew | apply IsS137.set_1 | apply IsS137.set_2 | apply IsS137.set_3) | exact HI0.out)); (case side2 => repeat (first | (with_reducible first | exact HB.out | apply below_alloc | apply pw_below_drewN | apply below_drew1 | refine below_set ?_ (IsS137.ge HI0.out)) | exact HB.out)); rintro e w36 ⟨rfl, hi, hb, hk⟩; have n0_ := Aside0.mk (KeepBut.trans (by repeat (first | (with_reducible first | exact HK.out | apply KeepBut.set_ | apply keep_drewN | apply keep_drew | apply keep_alloc) | exact HK.out)) hk (.inl rfl)); have n1_ := Aside0.mk (hb); have n2_ := Aside0.mk (hi); clear HK; clear HB; clear HI0; have HK := n0_; have HB := n1_; have HI0 := n2_; clear n0_ n1_ n2_; (try clear hb); (try clear hb2); (try clear hk); (try clear hi); obtain ⟨ASz37_0, cSz37_0, HGz37, hgz37, HSz37_0⟩ := HI0.out; have hcz37_0 := cellS137_0 HGz37; have hcz37_1 := cellS137_1 HGz37; have hcz37_2 := cellS137_2 HGz37; have hcz37_3 := cellS137_3 HGz37; have hfz37_1 := blk_frozen HGz37 1; have hfz37_2 := blk_frozen HGz37 2; have hfz37_3 := blk_frozen HGz37 3; clear HGz37 hgz37; have p30 : 0 ≤ (t195 : Int) := oa; have q30 : t195 < (t194.size : Int) := oa; have hx30 := bt_at t194 t195; replace p30 := eq_true p30; replace q30 := eq_true q30)))
                          go_ret
                          exact ⟨by first | rfl | (simp [errW_none, errW_some] <;> rfl) | (simp [*, errW_none, errW_some] <;> rfl), by repeat (first | (with_reducible first | exact HI0.out | apply IsS137.alloc | apply IsS137.drewN | apply IsS137.drew | apply IsS137.set_1 | apply IsS137.set_2 | apply IsS137.set_3) | exact HI0.out), by repeat (first | (with_reducible first | exact HB.out | apply below_alloc | apply pw_below_drewN | apply below_drew1 | refine below_set ?_ (IsS137.ge HI0.out)) | exact HB.out), by repeat (first | (with_reducible first | exact HK.out | apply KeepBut.set_ | apply keep_drewN | apply keep_drew | apply keep_alloc) | exact HK.out)⟩
                      · rw [if_neg c29] at H
                        exact absurd H (by simp)
                    · rw [if_neg c28] at H
                      exact absurd H (by simp)
              · rw [if_neg c18] at H
                have c18b0 : ((bt s0_1 s0_2) == 40) = false := beq_eq_false_iff_ne.mpr c18
                have c18b1 : ((bt s0_1 s0_2) != 40) = true := bne_iff_ne.mpr c18
                simp only [Option.some.injEq, Prod.mk.injEq] at H
                obtain ⟨rfl, rfl, rfl, rfl⟩ := H
                obtain ⟨ASz38_0, cSz38_0, HGz38, hgz38, HSz38_0⟩ := HI0.out
                have hcz38_0 := cellS137_0 HGz38
                have hcz38_1 := cellS137_1 HGz38
                have hcz38_2 := cellS137_2 HGz38
                have hcz38_3 := cellS137_3 HGz38
                have hfz38_1 := blk_frozen HGz38 1
                have hfz38_2 := blk_frozen HGz38 2
                have hfz38_3 := blk_frozen HGz38 3
                clear HGz38 hgz38
                have p10 : 0 ≤ (s0_2 : Int) := oa
                have q10 : s0_2 < (s0_1.size : Int) := oa
                have hx10 := bt_at s0_1 s0_2
                replace p10 := eq_true p10
                replace q10 := eq_true q10
                go_wp2_with (first | (go_at_call 176; (with_reducible refine (spec_l10Figure.calls (bt s0_1 s0_2) false _ A11.out).mono ?_); rintro e w' ⟨rfl, ⟨nd, rfl⟩⟩; (try first | exact ⟨rfl, _, World.drewN_drewN _ _ _⟩ | exact ⟨rfl, _, Eq.trans (World.drewN_drewN _ _ _) (congrArg (World.drewN _) (Nat.add_assoc _ _ _))⟩)))
                repeat (go_quiet (first | (go_at_call 176; (with_reducible refine (spec_l10Figure.calls (bt s0_1 s0_2) false _ A11.out).mono ?_); rintro e w' ⟨rfl, ⟨nd, rfl⟩⟩; (try first | exact ⟨rfl, _, World.drewN_drewN _ _ _⟩ | exact ⟨rfl, _, Eq.trans (World.drewN_drewN _ _ _) (congrArg (World.drewN _) (Nat.add_assoc _ _ _))⟩))); try go_wp2_with (first | (go_at_call 176; (with_reducible refine (spec_l10Figure.calls (bt s0_1 s0_2) false _ A11.out).mono ?_); rintro e w' ⟨rfl, ⟨nd, rfl⟩⟩; (try first | exact ⟨rfl, _, World.drewN_drewN _ _ _⟩ | exact ⟨rfl, _, Eq.trans (World.drewN_drewN _ _ _) (congrArg (World.drewN _) (Nat.add_assoc _ _ _))⟩))))
                go_ret
                exact ⟨by first | rfl | (simp [errW_none, errW_some] <;> rfl) | (simp [*, errW_none, errW_some] <;> rfl), by repeat (first | (with_reducible first | exact HI0.out | apply IsS137.alloc | apply IsS137.drewN | apply IsS137.drew | apply IsS137.set_1 | apply IsS137.set_2 | apply IsS137.set_3) | exact HI0.out), by repeat (first | (with_reducible first | exact HB.out | apply below_alloc | apply pw_below_drewN | apply below_drew1 | refine below_set ?_ (IsS137.ge HI0.out)) | exact HB.out), by repeat (first | (with_reducible first | exact HK.out | apply KeepBut.set_ | apply keep_drewN | apply keep_drew | apply keep_alloc) | exact HK.out)⟩
          · rw [if_neg c9] at H
            exact absurd H (by simp)
        · rw [if_neg c8] at H
          exact absurd H (by simp)

end Go.Proofs.Ytlkbdoejeomlmaa.PFnExactClimb
