/- Short words for long pieces of the printed proofs: each says a fact that a fixed search over the context's facts finds. General; no condition. -/
import Derived.Test.YthdoibaeamiepaaWWords
import Derived.Test.YthdoibaeamiepaaWLast
import Derived.Test.YthdoibaeamiepaaWMore
namespace Go.Proofs.YthdoibaeamiepaaW.PrintMore
open Go.RowKit Go.Proofs.YthdoibaeamiepaaW.PrintWords Go.Proofs.YthdoibaeamiepaaW.PrintLast
set_option linter.unusedVariables false
def bmk (n m : Nat) : Array Bool := ((List.range n).map (fun i => m.testBit i)).toArray
theorem oa {p : Prop} [d : Decidable p] (h : decide p = true := by first | (with_reducible assumption) | assumption) : p := of_decide_eq_true h
theorem bw {p : Prop} (h : p := by
  repeat (first
   | (with_reducible first | exact Aside0.out (by assumption) | apply below_alloc | apply pw_below_drewN | apply below_drew1 | refine below_set ?_ (Aside0.out (by assumption)))
   | exact Aside0.out (by assumption))) : p := h
theorem bx {p : Prop} (h : p := by
  repeat (first
   | (with_reducible first | exact Aside0.out (by assumption) | refine blk_drewN ?_ _ | refine blk_drew ?_ | refine blk_alloc ?_ _)
   | (apply blk_far; (case hp => exact Aside0.out (by with_reducible assumption)))
   | (refine blk_put (Aside0.out (by with_reducible assumption)) _ _ ?_; rfl)
   | (apply blk_far; (case hp => exact Aside0.out (by assumption)))
   | apply blk_put
   | exact Aside0.out (by assumption)
   | exact rfl)) : p := h
theorem bn {w : World} {a : Addr} {i : Nat} {v : Value} {g : Nat} (hx : w.cell? (a.add i) = some v) (hg : w.heap.size ≤ g) : a.block ≠ g := by
 have := World.block_lt_of_cell? w _ hx; rw [add_block] at this; omega
theorem fx {W : World} {a : Addr} {v : Option Value} (p : Addr) (u : Value) (hx : W.cell? a = v) (h : a.block ≠ p.block := by first | assumption | (rw [add_block]; assumption) | (show (Addr.add _ _).block ≠ _; rw [add_block]; assumption)) : (W.setCell p u).cell? a = v := (cell_far h u).trans hx
theorem hbc {w W : World} {a : Addr} {v : Value} (h : Below w.heap.size w W) (hx : w.cell? a = some v) : W.cell? a = some v := (h.cell (World.block_lt_of_cell? w a hx)).trans hx
theorem bz {w W : World} {g : Nat} (h : Below w.heap.size w W) (hg : g = W.heap.size) : w.heap.size ≤ g := hg ▸ h.size
theorem bl {W : World} {g g' : Nat} {o : Obj} (h : W.heap[g]? = some o) (hg : g' = W.heap.size) : g ≠ g' := hg ▸ Nat.ne_of_lt (blk_lt h)
theorem bl' {W : World} {g g' : Nat} {o : Obj} (h : W.heap[g]? = some o) (hg : g' = W.heap.size) : g' ≠ g := hg ▸ Nat.ne_of_gt (blk_lt h)
theorem kb {p : Prop} (h : p := by
  repeat (first | exact Kd.C_below (Aside0.out (by with_reducible assumption)) (Aside0.out (by with_reducible assumption)) | (with_reducible refine Kd.C_alloc ?_ _) | (with_reducible refine Kd.C_drewN ?_ _) | (with_reducible refine Kd.C_drew ?_))) : p := h
theorem sd (w : World) (p : Addr) (u : Value) (n : Nat) : (w.drewN n).setCell p u = (w.setCell p u).drewN n := rfl
theorem dn0 {w : World} {a : Addr} {v : Option Value} (h : w.cell? a = v) (n : Nat) : (w.drewN n).cell? a = v := h
theorem dn1 {w : World} {p0 : Addr} {u0 : Value} {a : Addr} {v : Option Value} (h : (w.setCell p0 u0).cell? a = v) (n : Nat) : ((w.drewN n).setCell p0 u0).cell? a = v := by simp only [sd]; exact dn0 h n
theorem bc1 {w : World} {g : Nat} {t : TypeId} {v0 : Value} (h : w.heap[g]? = some (.cells #[v0] t (0, 0))) : w.cell? ⟨g, 0, none⟩ = some v0 ∧ w.frozen? ⟨g, 0, none⟩ = false := ⟨(blk_cell h 0).trans rfl, blk_frozen h 0⟩
theorem bc2 {w : World} {g : Nat} {t : TypeId} {v0 v1 : Value} (h : w.heap[g]? = some (.cells #[v0, v1] t (0, 0))) : w.cell? ⟨g, 0, none⟩ = some v0 ∧ w.cell? ⟨g, 1, none⟩ = some v1 ∧ w.frozen? ⟨g, 0, none⟩ = false ∧ w.frozen? ⟨g, 1, none⟩ = false := ⟨(blk_cell h 0).trans rfl, (blk_cell h 1).trans rfl, blk_frozen h 0, blk_frozen h 1⟩
theorem bc3 {w : World} {g : Nat} {t : TypeId} {v0 v1 v2 : Value} (h : w.heap[g]? = some (.cells #[v0, v1, v2] t (0, 0))) : w.cell? ⟨g, 0, none⟩ = some v0 ∧ w.cell? ⟨g, 1, none⟩ = some v1 ∧ w.cell? ⟨g, 2, none⟩ = some v2 ∧ w.frozen? ⟨g, 0, none⟩ = false ∧ w.frozen? ⟨g, 1, none⟩ = false ∧ w.frozen? ⟨g, 2, none⟩ = false := ⟨(blk_cell h 0).trans rfl, (blk_cell h 1).trans rfl, (blk_cell h 2).trans rfl, blk_frozen h 0, blk_frozen h 1, blk_frozen h 2⟩
theorem bc4 {w : World} {g : Nat} {t : TypeId} {v0 v1 v2 v3 : Value} (h : w.heap[g]? = some (.cells #[v0, v1, v2, v3] t (0, 0))) : w.cell? ⟨g, 0, none⟩ = some v0 ∧ w.cell? ⟨g, 1, none⟩ = some v1 ∧ w.cell? ⟨g, 2, none⟩ = some v2 ∧ w.cell? ⟨g, 3, none⟩ = some v3 ∧ w.frozen? ⟨g, 0, none⟩ = false ∧ w.frozen? ⟨g, 1, none⟩ = false ∧ w.frozen? ⟨g, 2, none⟩ = false ∧ w.frozen? ⟨g, 3, none⟩ = false := ⟨(blk_cell h 0).trans rfl, (blk_cell h 1).trans rfl, (blk_cell h 2).trans rfl, (blk_cell h 3).trans rfl, blk_frozen h 0, blk_frozen h 1, blk_frozen h 2, blk_frozen h 3⟩
theorem bc5 {w : World} {g : Nat} {t : TypeId} {v0 v1 v2 v3 v4 : Value} (h : w.heap[g]? = some (.cells #[v0, v1, v2, v3, v4] t (0, 0))) : w.cell? ⟨g, 0, none⟩ = some v0 ∧ w.cell? ⟨g, 1, none⟩ = some v1 ∧ w.cell? ⟨g, 2, none⟩ = some v2 ∧ w.cell? ⟨g, 3, none⟩ = some v3 ∧ w.cell? ⟨g, 4, none⟩ = some v4 ∧ w.frozen? ⟨g, 0, none⟩ = false ∧ w.frozen? ⟨g, 1, none⟩ = false ∧ w.frozen? ⟨g, 2, none⟩ = false ∧ w.frozen? ⟨g, 3, none⟩ = false ∧ w.frozen? ⟨g, 4, none⟩ = false := ⟨(blk_cell h 0).trans rfl, (blk_cell h 1).trans rfl, (blk_cell h 2).trans rfl, (blk_cell h 3).trans rfl, (blk_cell h 4).trans rfl, blk_frozen h 0, blk_frozen h 1, blk_frozen h 2, blk_frozen h 3, blk_frozen h 4⟩
theorem str_less_not : ∀ x y : List UInt8, (!(Op.bytesLess x y || x == y)) = Op.bytesLess y x
 | [], [] => by simp [Op.bytesLess]
 | [], b :: y => by simp [Op.bytesLess]
 | a :: x, [] => by simp [Op.bytesLess]
 | a :: x, b :: y => by
  have ih := str_less_not x y; by_cases h1 : a < b
  ·have h2 : ¬ b < a := by simp only [UInt8.lt_iff_toNat_lt] at *; omega
   have h3 : ¬ b = a := by rintro rfl; exact absurd h1 (by simp)
   simp [Op.bytesLess, h1, h2, h3]
  ·by_cases h2 : b < a
   ·have h3 : ¬ a = b := by rintro rfl; exact absurd h2 (by simp)
    simp [Op.bytesLess, h1, h2, h3]
   ·have h3 : a = b := by apply UInt8.toNat_inj.1; simp only [UInt8.lt_iff_toNat_lt] at *; omega
    subst h3; simp only [Op.bytesLess, h1, decide_false, beq_self_eq_true, Bool.true_and, Bool.false_or, ← ih]; simp
theorem run_str_gtr (P : Program) (t : TypeId) (w : World) (x y : ByteArray) : (binOp .gtr t (.string x) (.string y)).run P w = .ok (.bool (Op.bytesLess y.toList x.toList)) w := by
 rw [← str_less_not]; rfl
end Go.Proofs.YthdoibaeamiepaaW.PrintMore
