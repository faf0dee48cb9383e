/- Printed walks of the functions of FnRuleNames, in few texts. No condition. -/
import Derived.Test.YthdoibaeamiepaaProg
import Derived.Below
import Derived.Deep.Draws
import Derived.Deep.AppendLies
import Derived.Maps.AppendAt
import Derived.OwnWalk
import Derived.Laws.BytesArg
import Derived.Laws.MakeOwn
import Derived.Laws.OwnMore
import Derived.Deep.OwnRows
import Derived.Tactics
import Derived.Lib.ConvBytes
import Derived.Laws.Slices
import Derived.WalkKit
import Derived.KernelRfl
import Derived.RowKit3
import Derived.Deep.LoopGhost
import Derived.Deep.QuietTactic
import Derived.BigQuiet
import Derived.WideLaws
import Derived.Deep.DeepCutAuto
import Derived.Deep.CutBlock
import Derived.Deep.RegionHeld3
import Derived.Laws.Rows
import Derived.Lib.AppendStr
import Derived.ArgAppend
import Derived.Laws.IdiomCopy
import Derived.OrdersHeld
import Derived.Laws.BitsLemmas
import Derived.RowKit
import Derived.Test.YthdoibaeamiepaaX
import Derived.Deep.RegionLaw
import Derived.StillTailTactics
import Derived.Test.YthdoibaeamiepaaWWords
import Derived.Test.YthdoibaeamiepaaWLast
import Derived.Test.YthdoibaeamiepaaWTab
import Derived.Test.YthdoibaeamiepaaWApart
import Derived.Test.YthdoibaeamiepaaWFoot
import Derived.Test.YthdoibaeamiepaaWKept
import Derived.Test.YthdoibaeamiepaaWShare
import Derived.Test.YthdoibaeamiepaaWN
import Derived.Laws.StructEq
import Derived.Test.YthdoibaeamiepaaWRepsOne
import Derived.Test.YthdoibaeamiepaaWGuard
import Derived.Test.YthdoibaeamiepaaWNEv
import Derived.Test.YthdoibaeamiepaaWMore
import Derived.Test.YthdoibaeamiepaaY
set_option maxHeartbeats 8000000
set_option maxRecDepth 100000
namespace Go.Proofs.Ythdoibaeamiepaa.PFnRuleNames
open Go.RowKit Go.Proofs.YthdoibaeamiepaaW.PrintWords Go.Proofs.YthdoibaeamiepaaW.PrintLast Go.Proofs.YthdoibaeamiepaaW.PrintMore
attribute [local go_sem] max2_int min2_int max_two min_two max_three min_three max_four min_four
set_option linter.unusedVariables false
set_option linter.unusedSimpArgs false
def errW : Option Int → Value
 | none => .nilIface
 | some c => .iface 0 (.int .i64 c)
theorem errW_none : errW none = .nilIface := rfl
theorem errW_some (c : Int) : errW (some c) = .iface 0 (.int .i64 c) := rfl
theorem info3 : (Try.prog.info? 3).map (fun i => (i.zero, i.size, i.bytes)) = some (some (.int .i64 0), 1, 8) := by kernel_rfl
theorem info9 : (Try.prog.info? 9).map (fun i => (i.zero, i.size, i.bytes)) = some (some (.string ⟨#[]⟩), 1, 16) := by kernel_rfl
theorem info69 : (Try.prog.info? 69).map (fun i => (i.zero, i.size, i.bytes)) = some (some (.agg #[(.slice none 0 0)]), 1, 24) := by kernel_rfl
theorem info84 : (Try.prog.info? 84).map (fun i => (i.zero, i.size, i.bytes)) = some (some (.agg #[(.int .i64 0), (.string ⟨#[]⟩)]), 2, 24) := by kernel_rfl
theorem info92 : (Try.prog.info? 92).map (fun i => (i.zero, i.size, i.bytes)) = some (some (.agg #[(.int .i64 0), (.int .i64 0), (.string ⟨#[]⟩), (.slice none 0 0)]), 4, 56) := by kernel_rfl
structure S84 where
 f0 : Int
 f1 : ByteArray
def z84 : S84 := ⟨(0 : Int), (⟨#[]⟩ : ByteArray)⟩
def k84 : Kd S84 := Kd.iso (Kd.pair (Kd.int .i64) Kd.string) (fun x : S84 => (x.f0, x.f1))
theorem k84_open {w : World} {x : S84} {cs : List Value} (h : k84.K w x cs) : cs = [.int .i64 x.f0, .string x.f1] := by
 obtain ⟨_, _, rfl, rfl, rfl⟩ := h; exact rfl
theorem k84_mkM (w : World) (base : Nat) (ok : Nat → Prop) (x : S84)  : k84.M w base ok x [.int .i64 x.f0, .string x.f1] := ⟨[.int .i64 x.f0], [.string x.f1], rfl, rfl, rfl⟩
def rd_T84 (xs : List S84) (i : Int) : S84 := xs.getD i.toNat z84
theorem at_T84 {w : World} {A : Option Addr} {n : Nat} {xs : List S84} (h : Kd.C k84 w A n xs) (i : Int) (h0 : 0 ≤ i) (h1 : i < n) : ∃ ad , A = some ad ∧ w.cell? (ad.add (i.toNat * 2)) = some (.int .i64 (rd_T84 xs i).f0) ∧ w.cell? ⟨(ad.add (i.toNat * 2)).block, (ad.add (i.toNat * 2)).off + 1, none⟩ = some (.string (rd_T84 xs i).f1) := by
 obtain ⟨ad, c, e, _, hK, hc0⟩ := Kd.C_get h z84 i h0 h1; have hc : ∀ j u, c[j]? = some u → w.cell? (ad.add (i.toNat * 2 + j)) = some u := hc0
 obtain rfl := k84_open hK; exact ⟨ad, e, hc 0 _ rfl, by rw [← add_field _ _ 1 (by omega)]; exact hc 1 _ rfl⟩
structure S92 where
 f0 : Int
 f1 : Int
 f2 : ByteArray
 f3 : (List Int)
def z92 : S92 := ⟨(0 : Int), (0 : Int), (⟨#[]⟩ : ByteArray), ([] : List Int)⟩
def k92 : Kd S92 := Kd.iso (Kd.pair (Kd.int .i64) (Kd.pair (Kd.int .i64) (Kd.pair Kd.string (Kd.slice 3 (Kd.int .i64))))) (fun x : S92 => (x.f0, x.f1, x.f2, x.f3))
theorem k92_heap : Kd.Heap k92 := Kd.heap_iso _ (Kd.heap_pair (Kd.heap_int .i64) (Kd.heap_pair (Kd.heap_int .i64) (Kd.heap_pair Kd.heap_string (Kd.heap_slice 3 (Kd.heap_int .i64)))))
theorem k92_open {w : World} {x : S92} {cs : List Value} (h : k92.K w x cs) : ∃ A3 c3, cs = [.int .i64 x.f0, .int .i64 x.f1, .string x.f2, .slice A3 x.f3.length c3] ∧ x.f3.length ≤ c3 ∧ (Kd.int .i64).C w A3 x.f3.length x.f3 := by
 obtain ⟨_, _, rfl, rfl, ⟨_, _, rfl, rfl, ⟨_, _, rfl, rfl, ⟨A3, c3, rfl, l3, g3⟩⟩⟩⟩ := h; exact ⟨A3, c3, rfl, l3, g3⟩
theorem k92_mkM (w : World) (base : Nat) (ok : Nat → Prop) (x : S92) {v3 : Value} (g3 : (Kd.int .i64).R 3 w base ok v3 x.f3) : k92.M w base ok x [.int .i64 x.f0, .int .i64 x.f1, .string x.f2, v3] := ⟨[.int .i64 x.f0], [.int .i64 x.f1, .string x.f2, v3], rfl, rfl, ⟨[.int .i64 x.f1], [.string x.f2, v3], rfl, rfl, ⟨[.string x.f2], [v3], rfl, rfl, ⟨v3, rfl, g3⟩⟩⟩⟩
def rd_T92 (xs : List S92) (i : Int) : S92 := xs.getD i.toNat z92
theorem at_T92 {w : World} {A : Option Addr} {n : Nat} {xs : List S92} (h : Kd.C k92 w A n xs) (i : Int) (h0 : 0 ≤ i) (h1 : i < n) : ∃ ad A3 c3, A = some ad ∧ w.cell? (ad.add (i.toNat * 4)) = some (.int .i64 (rd_T92 xs i).f0) ∧ w.cell? ⟨(ad.add (i.toNat * 4)).block, (ad.add (i.toNat * 4)).off + 1, none⟩ = some (.int .i64 (rd_T92 xs i).f1) ∧ w.cell? ⟨(ad.add (i.toNat * 4)).block, (ad.add (i.toNat * 4)).off + 2, none⟩ = some (.string (rd_T92 xs i).f2) ∧ w.cell? ⟨(ad.add (i.toNat * 4)).block, (ad.add (i.toNat * 4)).off + 3, none⟩ = some (.slice A3 (rd_T92 xs i).f3.length c3) ∧ (rd_T92 xs i).f3.length ≤ c3 ∧ (Kd.int .i64).C w A3 (rd_T92 xs i).f3.length (rd_T92 xs i).f3 := by
 obtain ⟨ad, c, e, _, hK, hc0⟩ := Kd.C_get h z92 i h0 h1; have hc : ∀ j u, c[j]? = some u → w.cell? (ad.add (i.toNat * 4 + j)) = some u := hc0
 obtain ⟨A3, c3, rfl, l3, g3⟩ := k92_open hK; exact ⟨ad, A3, c3, e, hc 0 _ rfl, by rw [← add_field _ _ 1 (by omega)]; exact hc 1 _ rfl, by rw [← add_field _ _ 2 (by omega)]; exact hc 2 _ rfl, by rw [← add_field _ _ 3 (by omega)]; exact hc 3 _ rfl, l3, g3⟩
structure S69 where
 f0 : (List S92)
def z69 : S69 := ⟨([] : List S92)⟩
def k69 : Kd S69 := Kd.iso (Kd.slice 92 k92) (fun x : S69 => x.f0)
theorem k69_heap : Kd.Heap k69 := Kd.heap_iso _ (Kd.heap_slice 92 k92_heap)
theorem k69_open {w : World} {x : S69} {cs : List Value} (h : k69.K w x cs) : ∃ A0 c0, cs = [.slice A0 x.f0.length c0] ∧ x.f0.length ≤ c0 ∧ k92.C w A0 x.f0.length x.f0 := by
 obtain ⟨A0, c0, rfl, l0, g0⟩ := h; exact ⟨A0, c0, rfl, l0, g0⟩
theorem k69_mk (w : World) (x : S69) {A0 : Option Addr} {c0 : Nat} (l0 : x.f0.length ≤ c0) (g0 : k92.C w A0 x.f0.length x.f0) : k69.K w x [.slice A0 x.f0.length c0] := ⟨A0, c0, rfl, l0, g0⟩
theorem k69_mkM (w : World) (base : Nat) (ok : Nat → Prop) (x : S69) {v0 : Value} (g0 : k92.R 92 w base ok v0 x.f0) : k69.M w base ok x [v0] := ⟨v0, rfl, g0⟩
theorem k69_mkF (W : World) (ok : Nat → Prop) (x : S69) {A0 : Option Addr} {c0 : Nat} (l0 : x.f0.length ≤ c0) (g0 : Kd.F k92 W ok A0 x.f0.length x.f0) : Kd.FK k69 W ok x [.slice A0 x.f0.length c0] := fun W2 hW => k69_mk W2 x l0 (g0 W2 hW)
def rd_T69 (xs : List S69) (i : Int) : S69 := xs.getD i.toNat z69
theorem at_T69 {w : World} {A : Option Addr} {n : Nat} {xs : List S69} (h : Kd.C k69 w A n xs) (i : Int) (h0 : 0 ≤ i) (h1 : i < n) : ∃ ad A0 c0, A = some ad ∧ w.cell? (ad.add i.toNat) = some (.slice A0 (rd_T69 xs i).f0.length c0) ∧ (rd_T69 xs i).f0.length ≤ c0 ∧ k92.C w A0 (rd_T69 xs i).f0.length (rd_T69 xs i).f0 := by
 obtain ⟨ad, c, e, _, hK, hc0⟩ := Kd.C_get h z69 i h0 h1; have hc : ∀ j u, c[j]? = some u → w.cell? (ad.add (i.toNat * 1 + j)) = some u := hc0
 obtain ⟨A0, c0, rfl, l0, g0⟩ := k69_open hK; exact ⟨ad, A0, c0, e, by have hq := hc 0 _ rfl; rwa [Nat.mul_one, Nat.add_zero] at hq, l0, g0⟩
structure S98 where
 f0 : Int
 f1 : ByteArray
 f2 : (List S69)
 f3 : ByteArray
 f4 : (List Int)
def z98 : S98 := ⟨(0 : Int), (⟨#[]⟩ : ByteArray), ([] : List S69), (⟨#[]⟩ : ByteArray), ([] : List Int)⟩
def k98 : Kd S98 := Kd.iso (Kd.pair (Kd.int .i64) (Kd.pair Kd.string (Kd.pair (Kd.slice 69 k69) (Kd.pair Kd.string (Kd.slice 3 (Kd.int .i64)))))) (fun x : S98 => (x.f0, x.f1, x.f2, x.f3, x.f4))
theorem k98_open {w : World} {x : S98} {cs : List Value} (h : k98.K w x cs) : ∃ A2 c2 A4 c4, cs = [.int .i64 x.f0, .string x.f1, .slice A2 x.f2.length c2, .string x.f3, .slice A4 x.f4.length c4] ∧ x.f2.length ≤ c2 ∧ k69.C w A2 x.f2.length x.f2 ∧ x.f4.length ≤ c4 ∧ (Kd.int .i64).C w A4 x.f4.length x.f4 := by
 obtain ⟨_, _, rfl, rfl, ⟨_, _, rfl, rfl, ⟨_, _, rfl, ⟨A2, c2, rfl, l2, g2⟩, ⟨_, _, rfl, rfl, ⟨A4, c4, rfl, l4, g4⟩⟩⟩⟩⟩ := h; exact ⟨A2, c2, A4, c4, rfl, l2, g2, l4, g4⟩
theorem k98_mkM (w : World) (base : Nat) (ok : Nat → Prop) (x : S98) {v2 : Value} (g2 : k69.R 69 w base ok v2 x.f2) {v4 : Value} (g4 : (Kd.int .i64).R 3 w base ok v4 x.f4) : k98.M w base ok x [.int .i64 x.f0, .string x.f1, v2, .string x.f3, v4] := ⟨[.int .i64 x.f0], [.string x.f1, v2, .string x.f3, v4], rfl, rfl, ⟨[.string x.f1], [v2, .string x.f3, v4], rfl, rfl, ⟨[v2], [.string x.f3, v4], rfl, ⟨v2, rfl, g2⟩, ⟨[.string x.f3], [v4], rfl, rfl, ⟨v4, rfl, g4⟩⟩⟩⟩⟩
def rd_T98 (xs : List S98) (i : Int) : S98 := xs.getD i.toNat z98
theorem at_T98 {w : World} {A : Option Addr} {n : Nat} {xs : List S98} (h : Kd.C k98 w A n xs) (i : Int) (h0 : 0 ≤ i) (h1 : i < n) : ∃ ad A2 c2 A4 c4, A = some ad ∧ w.cell? (ad.add (i.toNat * 5)) = some (.int .i64 (rd_T98 xs i).f0) ∧ w.cell? ⟨(ad.add (i.toNat * 5)).block, (ad.add (i.toNat * 5)).off + 1, none⟩ = some (.string (rd_T98 xs i).f1) ∧ w.cell? ⟨(ad.add (i.toNat * 5)).block, (ad.add (i.toNat * 5)).off + 2, none⟩ = some (.slice A2 (rd_T98 xs i).f2.length c2) ∧ w.cell? ⟨(ad.add (i.toNat * 5)).block, (ad.add (i.toNat * 5)).off + 3, none⟩ = some (.string (rd_T98 xs i).f3) ∧ w.cell? ⟨(ad.add (i.toNat * 5)).block, (ad.add (i.toNat * 5)).off + 4, none⟩ = some (.slice A4 (rd_T98 xs i).f4.length c4) ∧ (rd_T98 xs i).f2.length ≤ c2 ∧ k69.C w A2 (rd_T98 xs i).f2.length (rd_T98 xs i).f2 ∧ (rd_T98 xs i).f4.length ≤ c4 ∧ (Kd.int .i64).C w A4 (rd_T98 xs i).f4.length (rd_T98 xs i).f4 := by
 obtain ⟨ad, c, e, _, hK, hc0⟩ := Kd.C_get h z98 i h0 h1; have hc : ∀ j u, c[j]? = some u → w.cell? (ad.add (i.toNat * 5 + j)) = some u := hc0
 obtain ⟨A2, c2, A4, c4, rfl, l2, g2, l4, g4⟩ := k98_open hK; exact ⟨ad, A2, c2, A4, c4, e, hc 0 _ rfl, by rw [← add_field _ _ 1 (by omega)]; exact hc 1 _ rfl, by rw [← add_field _ _ 2 (by omega)]; exact hc 2 _ rfl, by rw [← add_field _ _ 3 (by omega)]; exact hc 3 _ rfl, by rw [← add_field _ _ 4 (by omega)]; exact hc 4 _ rfl, l2, g2, l4, g4⟩
structure S82 where
 f0 : ByteArray
 f1 : (List ByteArray)
 f2 : Int
def z82 : S82 := ⟨(⟨#[]⟩ : ByteArray), ([] : List ByteArray), (0 : Int)⟩
def k82 : Kd S82 := Kd.iso (Kd.pair Kd.string (Kd.pair (Kd.slice 9 Kd.string) (Kd.int .i64))) (fun x : S82 => (x.f0, x.f1, x.f2))
theorem k82_open {w : World} {x : S82} {cs : List Value} (h : k82.K w x cs) : ∃ A1 c1, cs = [.string x.f0, .slice A1 x.f1.length c1, .int .i64 x.f2] ∧ x.f1.length ≤ c1 ∧ Kd.string.C w A1 x.f1.length x.f1 := by
 obtain ⟨_, _, rfl, rfl, ⟨_, _, rfl, ⟨A1, c1, rfl, l1, g1⟩, rfl⟩⟩ := h; exact ⟨A1, c1, rfl, l1, g1⟩
theorem k82_mk (w : World) (x : S82) {A1 : Option Addr} {c1 : Nat} (l1 : x.f1.length ≤ c1) (g1 : Kd.string.C w A1 x.f1.length x.f1) : k82.K w x [.string x.f0, .slice A1 x.f1.length c1, .int .i64 x.f2] := ⟨[.string x.f0], [.slice A1 x.f1.length c1, .int .i64 x.f2], rfl, rfl, ⟨[.slice A1 x.f1.length c1], [.int .i64 x.f2], rfl, ⟨A1, c1, rfl, l1, g1⟩, rfl⟩⟩
theorem k82_mkF (W : World) (ok : Nat → Prop) (x : S82) {A1 : Option Addr} {c1 : Nat} (l1 : x.f1.length ≤ c1) (g1 : Kd.F Kd.string W ok A1 x.f1.length x.f1) : Kd.FK k82 W ok x [.string x.f0, .slice A1 x.f1.length c1, .int .i64 x.f2] := fun W2 hW => k82_mk W2 x l1 (g1 W2 hW)
def rd_T82 (xs : List S82) (i : Int) : S82 := xs.getD i.toNat z82
theorem at_T82 {w : World} {A : Option Addr} {n : Nat} {xs : List S82} (h : Kd.C k82 w A n xs) (i : Int) (h0 : 0 ≤ i) (h1 : i < n) : ∃ ad A1 c1, A = some ad ∧ w.cell? (ad.add (i.toNat * 3)) = some (.string (rd_T82 xs i).f0) ∧ w.cell? ⟨(ad.add (i.toNat * 3)).block, (ad.add (i.toNat * 3)).off + 1, none⟩ = some (.slice A1 (rd_T82 xs i).f1.length c1) ∧ w.cell? ⟨(ad.add (i.toNat * 3)).block, (ad.add (i.toNat * 3)).off + 2, none⟩ = some (.int .i64 (rd_T82 xs i).f2) ∧ (rd_T82 xs i).f1.length ≤ c1 ∧ Kd.string.C w A1 (rd_T82 xs i).f1.length (rd_T82 xs i).f1 := by
 obtain ⟨ad, c, e, _, hK, hc0⟩ := Kd.C_get h z82 i h0 h1; have hc : ∀ j u, c[j]? = some u → w.cell? (ad.add (i.toNat * 3 + j)) = some u := hc0
 obtain ⟨A1, c1, rfl, l1, g1⟩ := k82_open hK; exact ⟨ad, A1, c1, e, hc 0 _ rfl, by rw [← add_field _ _ 1 (by omega)]; exact hc 1 _ rfl, by rw [← add_field _ _ 2 (by omega)]; exact hc 2 _ rfl, l1, g1⟩
structure S66 where
 f0 : Int
 f1 : ByteArray
 f2 : (List S69)
 f3 : ByteArray
def z66 : S66 := ⟨(0 : Int), (⟨#[]⟩ : ByteArray), ([] : List S69), (⟨#[]⟩ : ByteArray)⟩
def k66 : Kd S66 := Kd.iso (Kd.pair (Kd.int .i64) (Kd.pair Kd.string (Kd.pair (Kd.slice 69 k69) Kd.string))) (fun x : S66 => (x.f0, x.f1, x.f2, x.f3))
theorem k66_open {w : World} {x : S66} {cs : List Value} (h : k66.K w x cs) : ∃ A2 c2, cs = [.int .i64 x.f0, .string x.f1, .slice A2 x.f2.length c2, .string x.f3] ∧ x.f2.length ≤ c2 ∧ k69.C w A2 x.f2.length x.f2 := by
 obtain ⟨_, _, rfl, rfl, ⟨_, _, rfl, rfl, ⟨_, _, rfl, ⟨A2, c2, rfl, l2, g2⟩, rfl⟩⟩⟩ := h; exact ⟨A2, c2, rfl, l2, g2⟩
theorem k66_openM {w : World} {base : Nat} {ok : Nat → Prop} {x : S66} {cs : List Value} (h : k66.M w base ok x cs) : ∃ v2, cs = [.int .i64 x.f0, .string x.f1, v2, .string x.f3] ∧ k69.R 69 w base ok v2 x.f2 := by
 obtain ⟨_, _, rfl, rfl, ⟨_, _, rfl, rfl, ⟨_, _, rfl, ⟨v2, rfl, g2⟩, rfl⟩⟩⟩ := h; exact ⟨v2, rfl, g2⟩
theorem k66_mk (w : World) (x : S66) {A2 : Option Addr} {c2 : Nat} (l2 : x.f2.length ≤ c2) (g2 : k69.C w A2 x.f2.length x.f2) : k66.K w x [.int .i64 x.f0, .string x.f1, .slice A2 x.f2.length c2, .string x.f3] := ⟨[.int .i64 x.f0], [.string x.f1, .slice A2 x.f2.length c2, .string x.f3], rfl, rfl, ⟨[.string x.f1], [.slice A2 x.f2.length c2, .string x.f3], rfl, rfl, ⟨[.slice A2 x.f2.length c2], [.string x.f3], rfl, ⟨A2, c2, rfl, l2, g2⟩, rfl⟩⟩⟩
theorem k66_mkM (w : World) (base : Nat) (ok : Nat → Prop) (x : S66) {v2 : Value} (g2 : k69.R 69 w base ok v2 x.f2) : k66.M w base ok x [.int .i64 x.f0, .string x.f1, v2, .string x.f3] := ⟨[.int .i64 x.f0], [.string x.f1, v2, .string x.f3], rfl, rfl, ⟨[.string x.f1], [v2, .string x.f3], rfl, rfl, ⟨[v2], [.string x.f3], rfl, ⟨v2, rfl, g2⟩, rfl⟩⟩⟩
theorem k66_mkF (W : World) (ok : Nat → Prop) (x : S66) {A2 : Option Addr} {c2 : Nat} (l2 : x.f2.length ≤ c2) (g2 : Kd.F k69 W ok A2 x.f2.length x.f2) : Kd.FK k66 W ok x [.int .i64 x.f0, .string x.f1, .slice A2 x.f2.length c2, .string x.f3] := fun W2 hW => k66_mk W2 x l2 (g2 W2 hW)
def rd_T66 (xs : List S66) (i : Int) : S66 := xs.getD i.toNat z66
theorem at_T66 {w : World} {A : Option Addr} {n : Nat} {xs : List S66} (h : Kd.C k66 w A n xs) (i : Int) (h0 : 0 ≤ i) (h1 : i < n) : ∃ ad A2 c2, A = some ad ∧ w.cell? (ad.add (i.toNat * 4)) = some (.int .i64 (rd_T66 xs i).f0) ∧ w.cell? ⟨(ad.add (i.toNat * 4)).block, (ad.add (i.toNat * 4)).off + 1, none⟩ = some (.string (rd_T66 xs i).f1) ∧ w.cell? ⟨(ad.add (i.toNat * 4)).block, (ad.add (i.toNat * 4)).off + 2, none⟩ = some (.slice A2 (rd_T66 xs i).f2.length c2) ∧ w.cell? ⟨(ad.add (i.toNat * 4)).block, (ad.add (i.toNat * 4)).off + 3, none⟩ = some (.string (rd_T66 xs i).f3) ∧ (rd_T66 xs i).f2.length ≤ c2 ∧ k69.C w A2 (rd_T66 xs i).f2.length (rd_T66 xs i).f2 := by
 obtain ⟨ad, c, e, _, hK, hc0⟩ := Kd.C_get h z66 i h0 h1; have hc : ∀ j u, c[j]? = some u → w.cell? (ad.add (i.toNat * 4 + j)) = some u := hc0
 obtain ⟨A2, c2, rfl, l2, g2⟩ := k66_open hK; exact ⟨ad, A2, c2, e, hc 0 _ rfl, by rw [← add_field _ _ 1 (by omega)]; exact hc 1 _ rfl, by rw [← add_field _ _ 2 (by omega)]; exact hc 2 _ rfl, by rw [← add_field _ _ 3 (by omega)]; exact hc 3 _ rfl, l2, g2⟩
structure S63 where
 f0 : (List S66)
def z63 : S63 := ⟨([] : List S66)⟩
def k63 : Kd S63 := Kd.iso (Kd.slice 66 k66) (fun x : S63 => x.f0)
theorem k63_open {w : World} {x : S63} {cs : List Value} (h : k63.K w x cs) : ∃ A0 c0, cs = [.slice A0 x.f0.length c0] ∧ x.f0.length ≤ c0 ∧ k66.C w A0 x.f0.length x.f0 := by
 obtain ⟨A0, c0, rfl, l0, g0⟩ := h; exact ⟨A0, c0, rfl, l0, g0⟩
theorem k63_openM {w : World} {base : Nat} {ok : Nat → Prop} {x : S63} {cs : List Value} (h : k63.M w base ok x cs) : ∃ v0, cs = [v0] ∧ k66.R 66 w base ok v0 x.f0 := by
 obtain ⟨v0, rfl, g0⟩ := h; exact ⟨v0, rfl, g0⟩
theorem k63_mk (w : World) (x : S63) {A0 : Option Addr} {c0 : Nat} (l0 : x.f0.length ≤ c0) (g0 : k66.C w A0 x.f0.length x.f0) : k63.K w x [.slice A0 x.f0.length c0] := ⟨A0, c0, rfl, l0, g0⟩
theorem k63_mkM (w : World) (base : Nat) (ok : Nat → Prop) (x : S63) {v0 : Value} (g0 : k66.R 66 w base ok v0 x.f0) : k63.M w base ok x [v0] := ⟨v0, rfl, g0⟩
theorem k63_mkF (W : World) (ok : Nat → Prop) (x : S63) {A0 : Option Addr} {c0 : Nat} (l0 : x.f0.length ≤ c0) (g0 : Kd.F k66 W ok A0 x.f0.length x.f0) : Kd.FK k63 W ok x [.slice A0 x.f0.length c0] := fun W2 hW => k63_mk W2 x l0 (g0 W2 hW)
def rd_T63 (xs : List S63) (i : Int) : S63 := xs.getD i.toNat z63
theorem at_T63 {w : World} {A : Option Addr} {n : Nat} {xs : List S63} (h : Kd.C k63 w A n xs) (i : Int) (h0 : 0 ≤ i) (h1 : i < n) : ∃ ad A0 c0, A = some ad ∧ w.cell? (ad.add i.toNat) = some (.slice A0 (rd_T63 xs i).f0.length c0) ∧ (rd_T63 xs i).f0.length ≤ c0 ∧ k66.C w A0 (rd_T63 xs i).f0.length (rd_T63 xs i).f0 := by
 obtain ⟨ad, c, e, _, hK, hc0⟩ := Kd.C_get h z63 i h0 h1; have hc : ∀ j u, c[j]? = some u → w.cell? (ad.add (i.toNat * 1 + j)) = some u := hc0
 obtain ⟨A0, c0, rfl, l0, g0⟩ := k63_open hK; exact ⟨ad, A0, c0, e, by have hq := hc 0 _ rfl; rwa [Nat.mul_one, Nat.add_zero] at hq, l0, g0⟩
structure S33 where
 f0 : ByteArray
 f1 : (List ByteArray)
 f2 : (List S63)
def z33 : S33 := ⟨(⟨#[]⟩ : ByteArray), ([] : List ByteArray), ([] : List S63)⟩
def k33 : Kd S33 := Kd.iso (Kd.pair Kd.string (Kd.pair (Kd.slice 9 Kd.string) (Kd.slice 63 k63))) (fun x : S33 => (x.f0, x.f1, x.f2))
theorem k33_open {w : World} {x : S33} {cs : List Value} (h : k33.K w x cs) : ∃ A1 c1 A2 c2, cs = [.string x.f0, .slice A1 x.f1.length c1, .slice A2 x.f2.length c2] ∧ x.f1.length ≤ c1 ∧ Kd.string.C w A1 x.f1.length x.f1 ∧ x.f2.length ≤ c2 ∧ k63.C w A2 x.f2.length x.f2 := by
 obtain ⟨_, _, rfl, rfl, ⟨_, _, rfl, ⟨A1, c1, rfl, l1, g1⟩, ⟨A2, c2, rfl, l2, g2⟩⟩⟩ := h; exact ⟨A1, c1, A2, c2, rfl, l1, g1, l2, g2⟩
theorem k33_openM {w : World} {base : Nat} {ok : Nat → Prop} {x : S33} {cs : List Value} (h : k33.M w base ok x cs) : ∃ v1 v2, cs = [.string x.f0, v1, v2] ∧ Kd.string.R 9 w base ok v1 x.f1 ∧ k63.R 63 w base ok v2 x.f2 := by
 obtain ⟨_, _, rfl, rfl, ⟨_, _, rfl, ⟨v1, rfl, g1⟩, ⟨v2, rfl, g2⟩⟩⟩ := h; exact ⟨v1, v2, rfl, g1, g2⟩
theorem k33_mk (w : World) (x : S33) {A1 : Option Addr} {c1 : Nat} (l1 : x.f1.length ≤ c1) (g1 : Kd.string.C w A1 x.f1.length x.f1) {A2 : Option Addr} {c2 : Nat} (l2 : x.f2.length ≤ c2) (g2 : k63.C w A2 x.f2.length x.f2) : k33.K w x [.string x.f0, .slice A1 x.f1.length c1, .slice A2 x.f2.length c2] := ⟨[.string x.f0], [.slice A1 x.f1.length c1, .slice A2 x.f2.length c2], rfl, rfl, ⟨[.slice A1 x.f1.length c1], [.slice A2 x.f2.length c2], rfl, ⟨A1, c1, rfl, l1, g1⟩, ⟨A2, c2, rfl, l2, g2⟩⟩⟩
theorem k33_mkM (w : World) (base : Nat) (ok : Nat → Prop) (x : S33) {v1 : Value} (g1 : Kd.string.R 9 w base ok v1 x.f1) {v2 : Value} (g2 : k63.R 63 w base ok v2 x.f2) : k33.M w base ok x [.string x.f0, v1, v2] := ⟨[.string x.f0], [v1, v2], rfl, rfl, ⟨[v1], [v2], rfl, ⟨v1, rfl, g1⟩, ⟨v2, rfl, g2⟩⟩⟩
theorem k33_openF {W : World} {ok : Nat → Prop} {x : S33} {cs : List Value} (h : Kd.FK k33 W ok x cs) : ∃ A1 c1 A2 c2, cs = [.string x.f0, .slice A1 x.f1.length c1, .slice A2 x.f2.length c2] ∧ x.f1.length ≤ c1 ∧ Kd.F Kd.string W ok A1 x.f1.length x.f1 ∧ x.f2.length ≤ c2 ∧ Kd.F k63 W ok A2 x.f2.length x.f2 := by
 obtain ⟨A1, c1, A2, c2, rfl, l1, _, l2, _⟩ := k33_open (Kd.FK_now h); exact ⟨A1, c1, A2, c2, rfl, l1, (fun W' hW => by obtain ⟨A1_, c1_, A2_, c2_, he, l1_, g1_, l2_, g2_⟩ := k33_open (h W' hW); injection (Option.some.inj (show some (Value.slice A1 x.f1.length c1) = some (Value.slice A1_ x.f1.length c1_) from congrArg (fun l => l[1]?) he)) with ha_ _ _; rw [ha_]; exact g1_), l2, (fun W' hW => by obtain ⟨A1_, c1_, A2_, c2_, he, l1_, g1_, l2_, g2_⟩ := k33_open (h W' hW); injection (Option.some.inj (show some (Value.slice A2 x.f2.length c2) = some (Value.slice A2_ x.f2.length c2_) from congrArg (fun l => l[2]?) he)) with ha_ _ _; rw [ha_]; exact g2_)⟩
theorem k33_mkF (W : World) (ok : Nat → Prop) (x : S33) {A1 : Option Addr} {c1 : Nat} (l1 : x.f1.length ≤ c1) (g1 : Kd.F Kd.string W ok A1 x.f1.length x.f1) {A2 : Option Addr} {c2 : Nat} (l2 : x.f2.length ≤ c2) (g2 : Kd.F k63 W ok A2 x.f2.length x.f2) : Kd.FK k33 W ok x [.string x.f0, .slice A1 x.f1.length c1, .slice A2 x.f2.length c2] := fun W2 hW => k33_mk W2 x l1 (g1 W2 hW) l2 (g2 W2 hW)
def rd_T33 (xs : List S33) (i : Int) : S33 := xs.getD i.toNat z33
theorem at_T33 {w : World} {A : Option Addr} {n : Nat} {xs : List S33} (h : Kd.C k33 w A n xs) (i : Int) (h0 : 0 ≤ i) (h1 : i < n) : ∃ ad A1 c1 A2 c2, A = some ad ∧ w.cell? (ad.add (i.toNat * 3)) = some (.string (rd_T33 xs i).f0) ∧ w.cell? ⟨(ad.add (i.toNat * 3)).block, (ad.add (i.toNat * 3)).off + 1, none⟩ = some (.slice A1 (rd_T33 xs i).f1.length c1) ∧ w.cell? ⟨(ad.add (i.toNat * 3)).block, (ad.add (i.toNat * 3)).off + 2, none⟩ = some (.slice A2 (rd_T33 xs i).f2.length c2) ∧ (rd_T33 xs i).f1.length ≤ c1 ∧ Kd.string.C w A1 (rd_T33 xs i).f1.length (rd_T33 xs i).f1 ∧ (rd_T33 xs i).f2.length ≤ c2 ∧ k63.C w A2 (rd_T33 xs i).f2.length (rd_T33 xs i).f2 := by
 obtain ⟨ad, c, e, _, hK, hc0⟩ := Kd.C_get h z33 i h0 h1; have hc : ∀ j u, c[j]? = some u → w.cell? (ad.add (i.toNat * 3 + j)) = some u := hc0
 obtain ⟨A1, c1, A2, c2, rfl, l1, g1, l2, g2⟩ := k33_open hK; exact ⟨ad, A1, c1, A2, c2, e, hc 0 _ rfl, by rw [← add_field _ _ 1 (by omega)]; exact hc 1 _ rfl, by rw [← add_field _ _ 2 (by omega)]; exact hc 2 _ rfl, l1, g1, l2, g2⟩
theorem isE0 (l : List UInt8) : (l == []) = l.isEmpty := by cases l <;> rfl
theorem isE1 (l : List UInt8) : (l != []) = !l.isEmpty := by cases l <;> rfl
def laws_big.f (l0 : List Int) : Option (Bool) := some (decide ((l0.length : Int) > 1048576))
theorem laws_big.calls (A0 : Option Addr) (c0 : Nat) (l0 : List Int) (r : Bool) (w : World) (hr0 : Kd.C (Kd.int .u8) w A0 l0.length l0) (hc0 : l0.length ≤ c0) (h : laws_big.f l0 = some r) :
  Calls Try.prog 4 #[.slice A0 l0.length c0] w fun e w' => e = .returned (.bool r) ∧ Drawn0 w w' := by
 have HR0 := am hr0; have HC0 := am hc0; clear hr0 hc0; have H : (some (decide ((l0.length : Int) > 1048576))) = some r := h; clear h; obtain rfl := si H; go_enter Try.func4, Try.ntmps4; go_wp2; go_ret; exact ⟨by rfl, by repeat (exact Drawn0.refl _)⟩
def IsS46 (w0 W : World) (g : Nat) (f0 : List Int) (f1 : Int) (f2 : Int) : Prop := ∃ A0 c0, W.heap[g]? = some (.cells #[.slice A0 f0.length c0, .int .i64 f1, .int .i64 f2] 46 (0, 0)) ∧ w0.heap.size ≤ g ∧ Kd.C (Kd.int .u8) w0 A0 f0.length f0
theorem IsS46.grown {w0 W : World} {g : Nat} {f0 : List Int} {f1 : Int} {f2 : Int} {W1 : World} {row : Option Nat} (h : IsS46 w0 W g f0 f1 f2) (hw : W.grownBy W1 row) (hne : some g ≠ row) : IsS46 w0 W1 g f0 f1 f2 := by
 obtain ⟨A0, c0, hb, hg, hr0⟩ := h; exact ⟨A0, c0, blk_grown hb hw hne, hg, hr0⟩
theorem IsS46.fresh {w0 W : World} {g : Nat} {f0 : List Int} {f1 : Int} {f2 : Int} (h : IsS46 w0 W g f0 f1 f2) : ∀ k, W.heap.size ≤ k → k ≠ g := by
 obtain ⟨A0, c0, hb, hg, hr0⟩ := h; exact Kd.freshB hb
theorem IsS46.below {w0 W : World} {g : Nat} {f0 : List Int} {f1 : Int} {f2 : Int} {W1 : World} (h : IsS46 w0 W g f0 f1 f2) (hw : Below W.heap.size W W1) : IsS46 w0 W1 g f0 f1 f2 := h.grown (grown_of_below hw none) (by simp)
theorem IsS46.alloc {w0 W : World} {g : Nat} {f0 : List Int} {f1 : Int} {f2 : Int} (h : IsS46 w0 W g f0 f1 f2) (o : Obj) : IsS46 w0 (W.alloc o) g f0 f1 f2 := h.below (below_alloc (Below.refl _ _) o)
theorem IsS46.drewN {w0 W : World} {g : Nat} {f0 : List Int} {f1 : Int} {f2 : Int} (h : IsS46 w0 W g f0 f1 f2) (m : Nat) : IsS46 w0 (W.drewN m) g f0 f1 f2 := h
theorem IsS46.apart {w0 W : World} {g : Nat} {f0 : List Int} {f1 : Int} {f2 : Int} {α : Type} {d : Kd α} {e : Nat} {base : Nat} {ok : Nat → Prop} {v : Value} {xs : List α} (h : IsS46 w0 W g f0 f1 f2) (ho : d.R e W base ok v xs) (ht : ∀ q, q ∈ e :: d.E → q ≠ 46) : d.R e W base (fun k => ok k ∧ k ≠ g) v xs := by
 obtain ⟨A0, c0, hb, hg, hr0⟩ := h; exact Kd.R_types ho hb ht
theorem IsS46.own_ne {w0 W : World} {g : Nat} {f0 : List Int} {f1 : Int} {f2 : Int} {α : Type} {d : Kd α} {e : Nat} {base : Nat} {ok : Nat → Prop} {v : Value} {xs : List α} (h : IsS46 w0 W g f0 f1 f2) (ho : d.R e W base ok v xs) (ht : e ≠ 46) : some g ≠ v.ownBlock := by
 obtain ⟨A0, c0, hb, hg, hr0⟩ := h; exact Kd.R_ne ho hb ht
theorem IsS46.lt {w0 W : World} {g : Nat} {f0 : List Int} {f1 : Int} {f2 : Int} (h : IsS46 w0 W g f0 f1 f2) : g < W.heap.size := by
 obtain ⟨A0, c0, hb, hg, hr0⟩ := h; exact blk_lt hb
theorem IsS46.ge {w0 W : World} {g : Nat} {f0 : List Int} {f1 : Int} {f2 : Int} (h : IsS46 w0 W g f0 f1 f2) : w0.heap.size ≤ g := by
 obtain ⟨A0, c0, hb, hg, hr0⟩ := h; exact hg
theorem IsS46.ne_blk {w0 W : World} {g : Nat} {f0 : List Int} {f1 : Int} {f2 : Int} {a : Nat} {cs : Array Value} {t : TypeId} {fr : Nat × Nat} (h : IsS46 w0 W g f0 f1 f2) (hb2 : W.heap[a]? = some (.cells cs t fr)) (ht : t ≠ 46) : g ≠ a := by
 obtain ⟨A0, c0, hb, hg, hr0⟩ := h; rintro rfl; rw [hb] at hb2; injection hb2 with hb2
 injection hb2 with _ ht2
 exact ht ht2.symm
theorem IsS46.far {w0 W : World} {g : Nat} {f0 : List Int} {f1 : Int} {f2 : Int} {p : Addr} (h : IsS46 w0 W g f0 f1 f2) (hne : g ≠ p.block) (u : Value) : IsS46 w0 (W.setCell p u) g f0 f1 f2 := by
 obtain ⟨A0, c0, hb, hg, hr0⟩ := h; exact ⟨A0, c0, blk_far hb hne u, hg, hr0⟩
theorem cellS46_0 {W : World} {g : Nat} {A0 : Option Addr} {c0 : Nat} {f0 : List Int} {f1 : Int} {f2 : Int} (h : W.heap[g]? = some (.cells #[.slice A0 f0.length c0, .int .i64 f1, .int .i64 f2] 46 (0, 0))) : W.cell? ⟨g, 0, none⟩ = some (.slice A0 f0.length c0) := (blk_cell h 0).trans rfl
theorem cellS46_1 {W : World} {g : Nat} {A0 : Option Addr} {c0 : Nat} {f0 : List Int} {f1 : Int} {f2 : Int} (h : W.heap[g]? = some (.cells #[.slice A0 f0.length c0, .int .i64 f1, .int .i64 f2] 46 (0, 0))) : W.cell? ⟨g, 1, none⟩ = some (.int .i64 f1) := (blk_cell h 1).trans rfl
theorem IsS46.set_1 {w0 W : World} {g : Nat} {f0 : List Int} {f1 : Int} {f2 : Int} (h : IsS46 w0 W g f0 f1 f2) (x : Int) : IsS46 w0 (W.setCell ⟨g, 1, none⟩ (.int .i64 x)) g f0 x f2 := by
 obtain ⟨A0, c0, hb, hg, hr0⟩ := h; exact ⟨A0, c0, by simpa using blk_set hb 1 (.int .i64 x), hg, hr0⟩
theorem cellS46_2 {W : World} {g : Nat} {A0 : Option Addr} {c0 : Nat} {f0 : List Int} {f1 : Int} {f2 : Int} (h : W.heap[g]? = some (.cells #[.slice A0 f0.length c0, .int .i64 f1, .int .i64 f2] 46 (0, 0))) : W.cell? ⟨g, 2, none⟩ = some (.int .i64 f2) := (blk_cell h 2).trans rfl
theorem IsS46.set_2 {w0 W : World} {g : Nat} {f0 : List Int} {f1 : Int} {f2 : Int} (h : IsS46 w0 W g f0 f1 f2) (x : Int) : IsS46 w0 (W.setCell ⟨g, 2, none⟩ (.int .i64 x)) g f0 f1 x := by
 obtain ⟨A0, c0, hb, hg, hr0⟩ := h; exact ⟨A0, c0, by simpa using blk_set hb 2 (.int .i64 x), hg, hr0⟩
def spec_l01New.l0 : Nat → List Int → Int → Int → Option (List Int × Int × Int)
 | 0, _, _, _ => none
 | k + 1, x0, x3, x4 => if x4 < (x0.length : Int) then (if x4 < 4000 then (if 0 ≤ x4 then (spec_l01New.l0 k x0 (Go.bits .and .i64 (wrap64 ((wrap64 ((wrap64 (x3 * 131)) + (wrap64 (rd x0 x4)))) + 7)) 1073741823) (wrap64 (x4 + 1))) else (none)) else (some (x0, 0, x3))) else (some (x0, 0, x3))
def spec_l01New.f (k : Nat) (l0 : List Int) : Option (List Int × Int × Int) := spec_l01New.l0 k l0 (wrap64 (34601 + (l0.length : Int))) 0
theorem spec_l01New.calls (k : Nat) (A0 : Option Addr) (c0 : Nat) (l0 : List Int) (r1 : List Int) (r2 : Int) (r3 : Int) (w0 w : World) (hB : Below w0.heap.size w0 w) (hr0 : Kd.C (Kd.int .u8) w0 A0 l0.length l0) (hc0 : l0.length ≤ c0) (h : spec_l01New.f k l0 = some (r1, r2, r3)) :
  Calls Try.prog 12 #[.slice A0 l0.length c0] w fun e w' => ∃ g_ : Nat, e = .returned (.pointer (some ⟨g_, 0, none⟩)) ∧ IsS46 w0 w' g_ r1 r2 r3 ∧ Below w0.heap.size w0 w' ∧ Below w.heap.size w w' := by
 have hu46 := Try.underlying46; have HR0 := am hr0; have HC0 := am hc0; clear hr0 hc0; have HBW := am (Below.refl w.heap.size w); have HW0 := am hB.size; have HB := am hB; clear hB; have H := h; unfold spec_l01New.f at H; clear h; have H' := am H; clear H; go_enter Try.func12, Try.ntmps12; go_wp2; go_loopg [3, 4] k (fun kq v3 v4 w' => ∃ (x3_1 : Int) (x4_1 : Int), v3 = .int .i64 x3_1 ∧ v4 = .int .i64 x4_1 ∧ Aside0 (spec_l01New.l0 kq l0 x3_1 x4_1 = some (r1, r2, r3)) ∧ Aside0 (kq ≤ k) ∧ Aside0 (Below w.heap.size w w') ∧ Aside0 (Below w0.heap.size w0 w'))
 case atStart => exact ⟨(wrap64 (34601 + (l0.length : Int))), (0), (by rfl), (by rfl), H', ⟨Nat.le_refl _⟩, HBW, HB⟩
 case round =>
  clear H'; obtain ⟨x3_1, x4_1, rfl, rfl, HA, HK1, HBW, HB⟩ := hrel
  cases gk with
  | zero => exact absurd HA.out (by simp [spec_l01New.l0])
  | succ k1 =>
   have H := HA.out; clear HA; simp only [spec_l01New.l0] at H; rcases cd H, H with ⟨⟨c2b0, H⟩ | ⟨c2b0, H⟩, -⟩
   ·rcases cd H, H with ⟨⟨c3b0, H⟩ | ⟨c3b0, H⟩, -⟩
    ·rcases cn H, H with ⟨⟨c4b0, H⟩, -⟩; have H' := am H; clear H; have p101 : 0 ≤ (x4_1 : Int) := oa; have q101 : x4_1 < (l0.length : Int) := oa; obtain ⟨ad101, e101, hx101_0⟩ := Kd.at_int HR0.out x4_1 p101 q101; cases e101; replace hx101_0 := pw_cell_below HB.out hx101_0; replace p101 := eq_true p101; replace q101 := eq_true q101; go_wp2; go_roundg k1
     case measure => have := HK1.out; omega
     case rel => exact ⟨(Go.bits .and .i64 (wrap64 ((wrap64 ((wrap64 (x3_1 * 131)) + (wrap64 (rd l0 x4_1)))) + 7)) 1073741823), (wrap64 (x4_1 + 1)), (by rfl), (by rfl), H', ⟨by have := HK1.out; omega⟩, HBW, HB⟩
    ·obtain ⟨rfl, rfl, rfl⟩ := s3 H; go_wp2_with (((with_reducible refine gd 31 ?_); refine bx_ #[.slice A0 l0.length c0, .int .i64 0, .int .i64 x3_1] 46 ?_; intro gb102 hg w5 hbox hb; have BK102 := am (hbox); have GE102 := am ((Nat.le_trans HW0.out (bz bw hg : w.heap.size ≤ gb102) : w0.heap.size ≤ gb102)); replace HBW := am (below_step HBW.out hb); replace HB := am (below_step bw hb); clear hb hbox hg)); go_ret; exact ⟨_, rfl, (show IsS46 w0 _ gb102 l0 0 x3_1 from ⟨_, _, by exact BK102.out, GE102.out, HR0.out⟩), HB.out, HBW.out⟩
   ·obtain ⟨rfl, rfl, rfl⟩ := s3 H; go_wp2_with (((with_reducible refine gd 31 ?_); refine bx_ #[.slice A0 l0.length c0, .int .i64 0, .int .i64 x3_1] 46 ?_; intro gb103 hg w6 hbox hb; have BK103 := am (hbox); have GE103 := am ((Nat.le_trans HW0.out (bz bw hg : w.heap.size ≤ gb103) : w0.heap.size ≤ gb103)); replace HBW := am (below_step HBW.out hb); replace HB := am (below_step bw hb); clear hb hbox hg)); go_ret; exact ⟨_, rfl, (show IsS46 w0 _ gb103 l0 0 x3_1 from ⟨_, _, by exact BK103.out, GE103.out, HR0.out⟩), HB.out, HBW.out⟩
def spec_l11List.f  : Option (List ByteArray) := some (([(⟨#[83, 32, 45, 62, 32, 34, 97, 34, 32, 83, 32, 34, 98, 34, 32, 124, 32, 59, 10, 124, 97, 98]⟩ : ByteArray), (⟨#[83, 32, 45, 62, 32, 83, 32, 34, 97, 34, 32, 124, 32, 34, 97, 34, 32, 59, 10, 124, 97]⟩ : ByteArray), (⟨#[83, 32, 45, 62, 32, 110, 58, 78, 32, 34, 58, 34, 32, 66, 40, 110, 41, 32, 59, 10, 78, 32, 45, 62, 32, 91, 48, 45, 57, 93, 32, 59, 10, 66, 40, 107, 41, 32, 45, 62, 32, 123, 32, 107, 32, 61, 32, 48, 32, 125, 32, 124, 32, 123, 32, 48, 32, 60, 32, 107, 32, 125, 32, 91, 97, 98, 93, 32, 66, 40, 107, 32, 45, 32, 49, 41, 32, 59, 10, 124, 49, 50, 97, 58, 97, 98]⟩ : ByteArray), (⟨#[83, 32, 45, 62, 32, 40, 32, 34, 97, 34, 32, 124, 32, 34, 98, 34, 32, 41, 42, 32, 34, 97, 34, 32, 59, 10, 124, 97, 98]⟩ : ByteArray), (⟨#[83, 32, 45, 62, 32, 69, 40, 48, 41, 32, 59, 10, 69, 40, 112, 41, 32, 45, 62, 32, 123, 32, 33, 40, 49, 32, 60, 32, 112, 41, 32, 125, 32, 69, 40, 49, 41, 32, 34, 43, 34, 32, 69, 40, 50, 41, 32, 124, 32, 91, 48, 45, 57, 93, 32, 124, 32, 34, 40, 34, 32, 69, 40, 48, 41, 32, 34, 41, 34, 32, 59, 10, 124, 49, 43, 50]⟩ : ByteArray), (⟨#[83, 32, 45, 62, 32, 83, 32, 83, 32, 124, 32, 34, 97, 34, 32, 124, 32, 59, 10, 124, 97]⟩ : ByteArray), (⟨#[83, 32, 45, 62, 32, 40, 32, 91, 97, 98, 93, 32, 41, 43, 32, 40, 32, 34, 49, 34, 32, 41, 63, 32, 59, 10, 124, 97, 98, 49]⟩ : ByteArray), (⟨#[83, 32, 45, 62, 32, 65, 32, 124, 32, 66, 32, 59, 10, 65, 32, 45, 62, 32, 34, 97, 34, 32, 65, 32, 124, 32, 34, 97, 34, 32, 59, 10, 66, 32, 45, 62, 32, 66, 32, 34, 97, 34, 32, 124, 32, 34, 97, 34, 32, 59, 10, 124, 97]⟩ : ByteArray), (⟨#[83, 32, 45, 62, 32, 80, 40, 48, 41, 32, 59, 10, 80, 40, 100, 41, 32, 45, 62, 32, 40, 32, 34, 40, 34, 32, 80, 40, 100, 32, 43, 32, 49, 41, 32, 34, 41, 34, 32, 41, 42, 32, 124, 32, 123, 32, 100, 32, 61, 32, 50, 32, 125, 32, 34, 97, 34, 32, 59, 10, 124, 40, 97, 41]⟩ : ByteArray), (⟨#[83, 32, 45, 62, 32, 110, 58, 65, 32, 109, 58, 65, 32, 123, 32, 110, 32, 61, 32, 109, 32, 125, 32, 59, 10, 65, 32, 45, 62, 32, 40, 32, 34, 97, 34, 32, 41, 42, 32, 59, 10, 124, 97]⟩ : ByteArray), (⟨#[83, 32, 45, 62, 32, 123, 32, 64, 32, 61, 32, 48, 32, 125, 32, 40, 32, 34, 97, 34, 32, 40, 32, 34, 98, 34, 32, 124, 32, 123, 32, 64, 32, 60, 32, 51, 32, 125, 32, 41, 32, 41, 42, 32, 59, 10, 124, 97, 98]⟩ : ByteArray), (⟨#[83, 32, 45, 62, 32, 120, 58, 68, 32, 40, 32, 123, 32, 120, 32, 60, 32, 53, 32, 125, 32, 34, 97, 34, 32, 124, 32, 123, 32, 52, 32, 60, 32, 120, 32, 125, 32, 34, 98, 34, 32, 41, 43, 32, 59, 10, 68, 32, 45, 62, 32, 91, 48, 45, 57, 93, 32, 59, 10, 124, 51, 97, 55, 98]⟩ : ByteArray), (⟨#[83, 32, 45, 62, 32, 67, 40, 51, 41, 32, 59, 10, 67, 40, 110, 41, 32, 45, 62, 32, 34, 97, 34, 32, 67, 40, 110, 32, 47, 32, 50, 41, 32, 124, 32, 123, 32, 110, 32, 61, 32, 48, 32, 125, 32, 124, 32, 67, 40, 110, 32, 42, 32, 57, 41, 32, 59, 10, 124, 97]⟩ : ByteArray)] : List ByteArray))
theorem spec_l11List.calls  (r : List ByteArray) (w : World) (h : spec_l11List.f  = some r) :
  Calls Try.prog 32 #[] w fun e w' => ∃ v0_ : Value, e = .returned (v0_) ∧ Kd.R Kd.string 9 w' w.heap.size (fun _ => True) v0_ r ∧ Below w.heap.size w w' := by
 have HB := am (Below.refl w.heap.size w); have H := h; unfold spec_l11List.f at H; clear h; obtain ⟨y104, hy104⟩ : ∃ y_ : List ByteArray, y_ = (([(⟨#[83, 32, 45, 62, 32, 34, 97, 34, 32, 83, 32, 34, 98, 34, 32, 124, 32, 59, 10, 124, 97, 98]⟩ : ByteArray), (⟨#[83, 32, 45, 62, 32, 83, 32, 34, 97, 34, 32, 124, 32, 34, 97, 34, 32, 59, 10, 124, 97]⟩ : ByteArray), (⟨#[83, 32, 45, 62, 32, 110, 58, 78, 32, 34, 58, 34, 32, 66, 40, 110, 41, 32, 59, 10, 78, 32, 45, 62, 32, 91, 48, 45, 57, 93, 32, 59, 10, 66, 40, 107, 41, 32, 45, 62, 32, 123, 32, 107, 32, 61, 32, 48, 32, 125, 32, 124, 32, 123, 32, 48, 32, 60, 32, 107, 32, 125, 32, 91, 97, 98, 93, 32, 66, 40, 107, 32, 45, 32, 49, 41, 32, 59, 10, 124, 49, 50, 97, 58, 97, 98]⟩ : ByteArray), (⟨#[83, 32, 45, 62, 32, 40, 32, 34, 97, 34, 32, 124, 32, 34, 98, 34, 32, 41, 42, 32, 34, 97, 34, 32, 59, 10, 124, 97, 98]⟩ : ByteArray), (⟨#[83, 32, 45, 62, 32, 69, 40, 48, 41, 32, 59, 10, 69, 40, 112, 41, 32, 45, 62, 32, 123, 32, 33, 40, 49, 32, 60, 32, 112, 41, 32, 125, 32, 69, 40, 49, 41, 32, 34, 43, 34, 32, 69, 40, 50, 41, 32, 124, 32, 91, 48, 45, 57, 93, 32, 124, 32, 34, 40, 34, 32, 69, 40, 48, 41, 32, 34, 41, 34, 32, 59, 10, 124, 49, 43, 50]⟩ : ByteArray), (⟨#[83, 32, 45, 62, 32, 83, 32, 83, 32, 124, 32, 34, 97, 34, 32, 124, 32, 59, 10, 124, 97]⟩ : ByteArray), (⟨#[83, 32, 45, 62, 32, 40, 32, 91, 97, 98, 93, 32, 41, 43, 32, 40, 32, 34, 49, 34, 32, 41, 63, 32, 59, 10, 124, 97, 98, 49]⟩ : ByteArray), (⟨#[83, 32, 45, 62, 32, 65, 32, 124, 32, 66, 32, 59, 10, 65, 32, 45, 62, 32, 34, 97, 34, 32, 65, 32, 124, 32, 34, 97, 34, 32, 59, 10, 66, 32, 45, 62, 32, 66, 32, 34, 97, 34, 32, 124, 32, 34, 97, 34, 32, 59, 10, 124, 97]⟩ : ByteArray), (⟨#[83, 32, 45, 62, 32, 80, 40, 48, 41, 32, 59, 10, 80, 40, 100, 41, 32, 45, 62, 32, 40, 32, 34, 40, 34, 32, 80, 40, 100, 32, 43, 32, 49, 41, 32, 34, 41, 34, 32, 41, 42, 32, 124, 32, 123, 32, 100, 32, 61, 32, 50, 32, 125, 32, 34, 97, 34, 32, 59, 10, 124, 40, 97, 41]⟩ : ByteArray), (⟨#[83, 32, 45, 62, 32, 110, 58, 65, 32, 109, 58, 65, 32, 123, 32, 110, 32, 61, 32, 109, 32, 125, 32, 59, 10, 65, 32, 45, 62, 32, 40, 32, 34, 97, 34, 32, 41, 42, 32, 59, 10, 124, 97]⟩ : ByteArray), (⟨#[83, 32, 45, 62, 32, 123, 32, 64, 32, 61, 32, 48, 32, 125, 32, 40, 32, 34, 97, 34, 32, 40, 32, 34, 98, 34, 32, 124, 32, 123, 32, 64, 32, 60, 32, 51, 32, 125, 32, 41, 32, 41, 42, 32, 59, 10, 124, 97, 98]⟩ : ByteArray), (⟨#[83, 32, 45, 62, 32, 120, 58, 68, 32, 40, 32, 123, 32, 120, 32, 60, 32, 53, 32, 125, 32, 34, 97, 34, 32, 124, 32, 123, 32, 52, 32, 60, 32, 120, 32, 125, 32, 34, 98, 34, 32, 41, 43, 32, 59, 10, 68, 32, 45, 62, 32, 91, 48, 45, 57, 93, 32, 59, 10, 124, 51, 97, 55, 98]⟩ : ByteArray), (⟨#[83, 32, 45, 62, 32, 67, 40, 51, 41, 32, 59, 10, 67, 40, 110, 41, 32, 45, 62, 32, 34, 97, 34, 32, 67, 40, 110, 32, 47, 32, 50, 41, 32, 124, 32, 123, 32, 110, 32, 61, 32, 48, 32, 125, 32, 124, 32, 67, 40, 110, 32, 42, 32, 57, 41, 32, 59, 10, 124, 97]⟩ : ByteArray)] : List ByteArray)) := ⟨_, rfl⟩; rw [← hy104] at H; have Ny104 := am hy104; clear hy104; obtain rfl := si H; go_enter Try.func32, Try.ntmps32; go_wp2_with (((with_reducible refine gate_dst (N := 1) rfl ?_); refine Kd.R_lit Kd.string _ 9 ?hg (N := 1) ?hd (xs := ([(⟨#[83, 32, 45, 62, 32, 34, 97, 34, 32, 83, 32, 34, 98, 34, 32, 124, 32, 59, 10, 124, 97, 98]⟩ : ByteArray), (⟨#[83, 32, 45, 62, 32, 83, 32, 34, 97, 34, 32, 124, 32, 34, 97, 34, 32, 59, 10, 124, 97]⟩ : ByteArray), (⟨#[83, 32, 45, 62, 32, 110, 58, 78, 32, 34, 58, 34, 32, 66, 40, 110, 41, 32, 59, 10, 78, 32, 45, 62, 32, 91, 48, 45, 57, 93, 32, 59, 10, 66, 40, 107, 41, 32, 45, 62, 32, 123, 32, 107, 32, 61, 32, 48, 32, 125, 32, 124, 32, 123, 32, 48, 32, 60, 32, 107, 32, 125, 32, 91, 97, 98, 93, 32, 66, 40, 107, 32, 45, 32, 49, 41, 32, 59, 10, 124, 49, 50, 97, 58, 97, 98]⟩ : ByteArray), (⟨#[83, 32, 45, 62, 32, 40, 32, 34, 97, 34, 32, 124, 32, 34, 98, 34, 32, 41, 42, 32, 34, 97, 34, 32, 59, 10, 124, 97, 98]⟩ : ByteArray), (⟨#[83, 32, 45, 62, 32, 69, 40, 48, 41, 32, 59, 10, 69, 40, 112, 41, 32, 45, 62, 32, 123, 32, 33, 40, 49, 32, 60, 32, 112, 41, 32, 125, 32, 69, 40, 49, 41, 32, 34, 43, 34, 32, 69, 40, 50, 41, 32, 124, 32, 91, 48, 45, 57, 93, 32, 124, 32, 34, 40, 34, 32, 69, 40, 48, 41, 32, 34, 41, 34, 32, 59, 10, 124, 49, 43, 50]⟩ : ByteArray), (⟨#[83, 32, 45, 62, 32, 83, 32, 83, 32, 124, 32, 34, 97, 34, 32, 124, 32, 59, 10, 124, 97]⟩ : ByteArray), (⟨#[83, 32, 45, 62, 32, 40, 32, 91, 97, 98, 93, 32, 41, 43, 32, 40, 32, 34, 49, 34, 32, 41, 63, 32, 59, 10, 124, 97, 98, 49]⟩ : ByteArray), (⟨#[83, 32, 45, 62, 32, 65, 32, 124, 32, 66, 32, 59, 10, 65, 32, 45, 62, 32, 34, 97, 34, 32, 65, 32, 124, 32, 34, 97, 34, 32, 59, 10, 66, 32, 45, 62, 32, 66, 32, 34, 97, 34, 32, 124, 32, 34, 97, 34, 32, 59, 10, 124, 97]⟩ : ByteArray), (⟨#[83, 32, 45, 62, 32, 80, 40, 48, 41, 32, 59, 10, 80, 40, 100, 41, 32, 45, 62, 32, 40, 32, 34, 40, 34, 32, 80, 40, 100, 32, 43, 32, 49, 41, 32, 34, 41, 34, 32, 41, 42, 32, 124, 32, 123, 32, 100, 32, 61, 32, 50, 32, 125, 32, 34, 97, 34, 32, 59, 10, 124, 40, 97, 41]⟩ : ByteArray), (⟨#[83, 32, 45, 62, 32, 110, 58, 65, 32, 109, 58, 65, 32, 123, 32, 110, 32, 61, 32, 109, 32, 125, 32, 59, 10, 65, 32, 45, 62, 32, 40, 32, 34, 97, 34, 32, 41, 42, 32, 59, 10, 124, 97]⟩ : ByteArray), (⟨#[83, 32, 45, 62, 32, 123, 32, 64, 32, 61, 32, 48, 32, 125, 32, 40, 32, 34, 97, 34, 32, 40, 32, 34, 98, 34, 32, 124, 32, 123, 32, 64, 32, 60, 32, 51, 32, 125, 32, 41, 32, 41, 42, 32, 59, 10, 124, 97, 98]⟩ : ByteArray), (⟨#[83, 32, 45, 62, 32, 120, 58, 68, 32, 40, 32, 123, 32, 120, 32, 60, 32, 53, 32, 125, 32, 34, 97, 34, 32, 124, 32, 123, 32, 52, 32, 60, 32, 120, 32, 125, 32, 34, 98, 34, 32, 41, 43, 32, 59, 10, 68, 32, 45, 62, 32, 91, 48, 45, 57, 93, 32, 59, 10, 124, 51, 97, 55, 98]⟩ : ByteArray), (⟨#[83, 32, 45, 62, 32, 67, 40, 51, 41, 32, 59, 10, 67, 40, 110, 41, 32, 45, 62, 32, 34, 97, 34, 32, 67, 40, 110, 32, 47, 32, 50, 41, 32, 124, 32, 123, 32, 110, 32, 61, 32, 48, 32, 125, 32, 124, 32, 67, 40, 110, 32, 42, 32, 57, 41, 32, 59, 10, 124, 97]⟩ : ByteArray)] : List ByteArray)) (inner := [.string (⟨#[83, 32, 45, 62, 32, 34, 97, 34, 32, 83, 32, 34, 98, 34, 32, 124, 32, 59, 10, 124, 97, 98]⟩ : ByteArray), .string (⟨#[83, 32, 45, 62, 32, 83, 32, 34, 97, 34, 32, 124, 32, 34, 97, 34, 32, 59, 10, 124, 97]⟩ : ByteArray), .string (⟨#[83, 32, 45, 62, 32, 110, 58, 78, 32, 34, 58, 34, 32, 66, 40, 110, 41, 32, 59, 10, 78, 32, 45, 62, 32, 91, 48, 45, 57, 93, 32, 59, 10, 66, 40, 107, 41, 32, 45, 62, 32, 123, 32, 107, 32, 61, 32, 48, 32, 125, 32, 124, 32, 123, 32, 48, 32, 60, 32, 107, 32, 125, 32, 91, 97, 98, 93, 32, 66, 40, 107, 32, 45, 32, 49, 41, 32, 59, 10, 124, 49, 50, 97, 58, 97, 98]⟩ : ByteArray), .string (⟨#[83, 32, 45, 62, 32, 40, 32, 34, 97, 34, 32, 124, 32, 34, 98, 34, 32, 41, 42, 32, 34, 97, 34, 32, 59, 10, 124, 97, 98]⟩ : ByteArray), .string (⟨#[83, 32, 45, 62, 32, 69, 40, 48, 41, 32, 59, 10, 69, 40, 112, 41, 32, 45, 62, 32, 123, 32, 33, 40, 49, 32, 60, 32, 112, 41, 32, 125, 32, 69, 40, 49, 41, 32, 34, 43, 34, 32, 69, 40, 50, 41, 32, 124, 32, 91, 48, 45, 57, 93, 32, 124, 32, 34, 40, 34, 32, 69, 40, 48, 41, 32, 34, 41, 34, 32, 59, 10, 124, 49, 43, 50]⟩ : ByteArray), .string (⟨#[83, 32, 45, 62, 32, 83, 32, 83, 32, 124, 32, 34, 97, 34, 32, 124, 32, 59, 10, 124, 97]⟩ : ByteArray), .string (⟨#[83, 32, 45, 62, 32, 40, 32, 91, 97, 98, 93, 32, 41, 43, 32, 40, 32, 34, 49, 34, 32, 41, 63, 32, 59, 10, 124, 97, 98, 49]⟩ : ByteArray), .string (⟨#[83, 32, 45, 62, 32, 65, 32, 124, 32, 66, 32, 59, 10, 65, 32, 45, 62, 32, 34, 97, 34, 32, 65, 32, 124, 32, 34, 97, 34, 32, 59, 10, 66, 32, 45, 62, 32, 66, 32, 34, 97, 34, 32, 124, 32, 34, 97, 34, 32, 59, 10, 124, 97]⟩ : ByteArray), .string (⟨#[83, 32, 45, 62, 32, 80, 40, 48, 41, 32, 59, 10, 80, 40, 100, 41, 32, 45, 62, 32, 40, 32, 34, 40, 34, 32, 80, 40, 100, 32, 43, 32, 49, 41, 32, 34, 41, 34, 32, 41, 42, 32, 124, 32, 123, 32, 100, 32, 61, 32, 50, 32, 125, 32, 34, 97, 34, 32, 59, 10, 124, 40, 97, 41]⟩ : ByteArray), .string (⟨#[83, 32, 45, 62, 32, 110, 58, 65, 32, 109, 58, 65, 32, 123, 32, 110, 32, 61, 32, 109, 32, 125, 32, 59, 10, 65, 32, 45, 62, 32, 40, 32, 34, 97, 34, 32, 41, 42, 32, 59, 10, 124, 97]⟩ : ByteArray), .string (⟨#[83, 32, 45, 62, 32, 123, 32, 64, 32, 61, 32, 48, 32, 125, 32, 40, 32, 34, 97, 34, 32, 40, 32, 34, 98, 34, 32, 124, 32, 123, 32, 64, 32, 60, 32, 51, 32, 125, 32, 41, 32, 41, 42, 32, 59, 10, 124, 97, 98]⟩ : ByteArray), .string (⟨#[83, 32, 45, 62, 32, 120, 58, 68, 32, 40, 32, 123, 32, 120, 32, 60, 32, 53, 32, 125, 32, 34, 97, 34, 32, 124, 32, 123, 32, 52, 32, 60, 32, 120, 32, 125, 32, 34, 98, 34, 32, 41, 43, 32, 59, 10, 68, 32, 45, 62, 32, 91, 48, 45, 57, 93, 32, 59, 10, 124, 51, 97, 55, 98]⟩ : ByteArray), .string (⟨#[83, 32, 45, 62, 32, 67, 40, 51, 41, 32, 59, 10, 67, 40, 110, 41, 32, 45, 62, 32, 34, 97, 34, 32, 67, 40, 110, 32, 47, 32, 50, 41, 32, 124, 32, 123, 32, 110, 32, 61, 32, 48, 32, 125, 32, 124, 32, 67, 40, 110, 32, 42, 32, 57, 41, 32, 59, 10, 124, 97]⟩ : ByteArray)]) (ok := fun _ => True) (okp := fun _ => True) ?hr ?hp (fun _ hk => hk) trivial (Below.refl _ _) (Nat.le_refl _) (by simp) ?_; (case hd => rfl); (case hg => rfl); (case hr => (go_simp; done)); (case hp => exact (Reps.one (show Kd.M Kd.string _ _ _ (⟨#[83, 32, 45, 62, 32, 34, 97, 34, 32, 83, 32, 34, 98, 34, 32, 124, 32, 59, 10, 124, 97, 98]⟩ : ByteArray) [.string (⟨#[83, 32, 45, 62, 32, 34, 97, 34, 32, 83, 32, 34, 98, 34, 32, 124, 32, 59, 10, 124, 97, 98]⟩ : ByteArray)] from rfl) (Reps.one (show Kd.M Kd.string _ _ _ (⟨#[83, 32, 45, 62, 32, 83, 32, 34, 97, 34, 32, 124, 32, 34, 97, 34, 32, 59, 10, 124, 97]⟩ : ByteArray) [.string (⟨#[83, 32, 45, 62, 32, 83, 32, 34, 97, 34, 32, 124, 32, 34, 97, 34, 32, 59, 10, 124, 97]⟩ : ByteArray)] from rfl) (Reps.one (show Kd.M Kd.string _ _ _ (⟨#[83, 32, 45, 62, 32, 110, 58, 78, 32, 34, 58, 34, 32, 66, 40, 110, 41, 32, 59, 10, 78, 32, 45, 62, 32, 91, 48, 45, 57, 93, 32, 59, 10, 66, 40, 107, 41, 32, 45, 62, 32, 123, 32, 107, 32, 61, 32, 48, 32, 125, 32, 124, 32, 123, 32, 48, 32, 60, 32, 107, 32, 125, 32, 91, 97, 98, 93, 32, 66, 40, 107, 32, 45, 32, 49, 41, 32, 59, 10, 124, 49, 50, 97, 58, 97, 98]⟩ : ByteArray) [.string (⟨#[83, 32, 45, 62, 32, 110, 58, 78, 32, 34, 58, 34, 32, 66, 40, 110, 41, 32, 59, 10, 78, 32, 45, 62, 32, 91, 48, 45, 57, 93, 32, 59, 10, 66, 40, 107, 41, 32, 45, 62, 32, 123, 32, 107, 32, 61, 32, 48, 32, 125, 32, 124, 32, 123, 32, 48, 32, 60, 32, 107, 32, 125, 32, 91, 97, 98, 93, 32, 66, 40, 107, 32, 45, 32, 49, 41, 32, 59, 10, 124, 49, 50, 97, 58, 97, 98]⟩ : ByteArray)] from rfl) (Reps.one (show Kd.M Kd.string _ _ _ (⟨#[83, 32, 45, 62, 32, 40, 32, 34, 97, 34, 32, 124, 32, 34, 98, 34, 32, 41, 42, 32, 34, 97, 34, 32, 59, 10, 124, 97, 98]⟩ : ByteArray) [.string (⟨#[83, 32, 45, 62, 32, 40, 32, 34, 97, 34, 32, 124, 32, 34, 98, 34, 32, 41, 42, 32, 34, 97, 34, 32, 59, 10, 124, 97, 98]⟩ : ByteArray)] from rfl) (Reps.one (show Kd.M Kd.string _ _ _ (⟨#[83, 32, 45, 62, 32, 69, 40, 48, 41, 32, 59, 10, 69, 40, 112, 41, 32, 45, 62, 32, 123, 32, 33, 40, 49, 32, 60, 32, 112, 41, 32, 125, 32, 69, 40, 49, 41, 32, 34, 43, 34, 32, 69, 40, 50, 41, 32, 124, 32, 91, 48, 45, 57, 93, 32, 124, 32, 34, 40, 34, 32, 69, 40, 48, 41, 32, 34, 41, 34, 32, 59, 10, 124, 49, 43, 50]⟩ : ByteArray) [.string (⟨#[83, 32, 45, 62, 32, 69, 40, 48, 41, 32, 59, 10, 69, 40, 112, 41, 32, 45, 62, 32, 123, 32, 33, 40, 49, 32, 60, 32, 112, 41, 32, 125, 32, 69, 40, 49, 41, 32, 34, 43, 34, 32, 69, 40, 50, 41, 32, 124, 32, 91, 48, 45, 57, 93, 32, 124, 32, 34, 40, 34, 32, 69, 40, 48, 41, 32, 34, 41, 34, 32, 59, 10, 124, 49, 43, 50]⟩ : ByteArray)] from rfl) (Reps.one (show Kd.M Kd.string _ _ _ (⟨#[83, 32, 45, 62, 32, 83, 32, 83, 32, 124, 32, 34, 97, 34, 32, 124, 32, 59, 10, 124, 97]⟩ : ByteArray) [.string (⟨#[83, 32, 45, 62, 32, 83, 32, 83, 32, 124, 32, 34, 97, 34, 32, 124, 32, 59, 10, 124, 97]⟩ : ByteArray)] from rfl) (Reps.one (show Kd.M Kd.string _ _ _ (⟨#[83, 32, 45, 62, 32, 40, 32, 91, 97, 98, 93, 32, 41, 43, 32, 40, 32, 34, 49, 34, 32, 41, 63, 32, 59, 10, 124, 97, 98, 49]⟩ : ByteArray) [.string (⟨#[83, 32, 45, 62, 32, 40, 32, 91, 97, 98, 93, 32, 41, 43, 32, 40, 32, 34, 49, 34, 32, 41, 63, 32, 59, 10, 124, 97, 98, 49]⟩ : ByteArray)] from rfl) (Reps.one (show Kd.M Kd.string _ _ _ (⟨#[83, 32, 45, 62, 32, 65, 32, 124, 32, 66, 32, 59, 10, 65, 32, 45, 62, 32, 34, 97, 34, 32, 65, 32, 124, 32, 34, 97, 34, 32, 59, 10, 66, 32, 45, 62, 32, 66, 32, 34, 97, 34, 32, 124, 32, 34, 97, 34, 32, 59, 10, 124, 97]⟩ : ByteArray) [.string (⟨#[83, 32, 45, 62, 32, 65, 32, 124, 32, 66, 32, 59, 10, 65, 32, 45, 62, 32, 34, 97, 34, 32, 65, 32, 124, 32, 34, 97, 34, 32, 59, 10, 66, 32, 45, 62, 32, 66, 32, 34, 97, 34, 32, 124, 32, 34, 97, 34, 32, 59, 10, 124, 97]⟩ : ByteArray)] from rfl) (Reps.one (show Kd.M Kd.string _ _ _ (⟨#[83, 32, 45, 62, 32, 80, 40, 48, 41, 32, 59, 10, 80, 40, 100, 41, 32, 45, 62, 32, 40, 32, 34, 40, 34, 32, 80, 40, 100, 32, 43, 32, 49, 41, 32, 34, 41, 34, 32, 41, 42, 32, 124, 32, 123, 32, 100, 32, 61, 32, 50, 32, 125, 32, 34, 97, 34, 32, 59, 10, 124, 40, 97, 41]⟩ : ByteArray) [.string (⟨#[83, 32, 45, 62, 32, 80, 40, 48, 41, 32, 59, 10, 80, 40, 100, 41, 32, 45, 62, 32, 40, 32, 34, 40, 34, 32, 80, 40, 100, 32, 43, 32, 49, 41, 32, 34, 41, 34, 32, 41, 42, 32, 124, 32, 123, 32, 100, 32, 61, 32, 50, 32, 125, 32, 34, 97, 34, 32, 59, 10, 124, 40, 97, 41]⟩ : ByteArray)] from rfl) (Reps.one (show Kd.M Kd.string _ _ _ (⟨#[83, 32, 45, 62, 32, 110, 58, 65, 32, 109, 58, 65, 32, 123, 32, 110, 32, 61, 32, 109, 32, 125, 32, 59, 10, 65, 32, 45, 62, 32, 40, 32, 34, 97, 34, 32, 41, 42, 32, 59, 10, 124, 97]⟩ : ByteArray) [.string (⟨#[83, 32, 45, 62, 32, 110, 58, 65, 32, 109, 58, 65, 32, 123, 32, 110, 32, 61, 32, 109, 32, 125, 32, 59, 10, 65, 32, 45, 62, 32, 40, 32, 34, 97, 34, 32, 41, 42, 32, 59, 10, 124, 97]⟩ : ByteArray)] from rfl) (Reps.one (show Kd.M Kd.string _ _ _ (⟨#[83, 32, 45, 62, 32, 123, 32, 64, 32, 61, 32, 48, 32, 125, 32, 40, 32, 34, 97, 34, 32, 40, 32, 34, 98, 34, 32, 124, 32, 123, 32, 64, 32, 60, 32, 51, 32, 125, 32, 41, 32, 41, 42, 32, 59, 10, 124, 97, 98]⟩ : ByteArray) [.string (⟨#[83, 32, 45, 62, 32, 123, 32, 64, 32, 61, 32, 48, 32, 125, 32, 40, 32, 34, 97, 34, 32, 40, 32, 34, 98, 34, 32, 124, 32, 123, 32, 64, 32, 60, 32, 51, 32, 125, 32, 41, 32, 41, 42, 32, 59, 10, 124, 97, 98]⟩ : ByteArray)] from rfl) (Reps.one (show Kd.M Kd.string _ _ _ (⟨#[83, 32, 45, 62, 32, 120, 58, 68, 32, 40, 32, 123, 32, 120, 32, 60, 32, 53, 32, 125, 32, 34, 97, 34, 32, 124, 32, 123, 32, 52, 32, 60, 32, 120, 32, 125, 32, 34, 98, 34, 32, 41, 43, 32, 59, 10, 68, 32, 45, 62, 32, 91, 48, 45, 57, 93, 32, 59, 10, 124, 51, 97, 55, 98]⟩ : ByteArray) [.string (⟨#[83, 32, 45, 62, 32, 120, 58, 68, 32, 40, 32, 123, 32, 120, 32, 60, 32, 53, 32, 125, 32, 34, 97, 34, 32, 124, 32, 123, 32, 52, 32, 60, 32, 120, 32, 125, 32, 34, 98, 34, 32, 41, 43, 32, 59, 10, 68, 32, 45, 62, 32, 91, 48, 45, 57, 93, 32, 59, 10, 124, 51, 97, 55, 98]⟩ : ByteArray)] from rfl) (Reps.one (show Kd.M Kd.string _ _ _ (⟨#[83, 32, 45, 62, 32, 67, 40, 51, 41, 32, 59, 10, 67, 40, 110, 41, 32, 45, 62, 32, 34, 97, 34, 32, 67, 40, 110, 32, 47, 32, 50, 41, 32, 124, 32, 123, 32, 110, 32, 61, 32, 48, 32, 125, 32, 124, 32, 67, 40, 110, 32, 42, 32, 57, 41, 32, 59, 10, 124, 97]⟩ : ByteArray) [.string (⟨#[83, 32, 45, 62, 32, 67, 40, 51, 41, 32, 59, 10, 67, 40, 110, 41, 32, 45, 62, 32, 34, 97, 34, 32, 67, 40, 110, 32, 47, 32, 50, 41, 32, 124, 32, 123, 32, 110, 32, 61, 32, 48, 32, 125, 32, 124, 32, 67, 40, 110, 32, 42, 32, 57, 41, 32, 59, 10, 124, 97]⟩ : ByteArray)] from rfl) (Reps.none _ _))))))))))))))); intro v105 w1 ho2 hb hg_ hnew_; clear hg_ hnew_; ((rw [← Ny104.out] at ho2)); have HO106 := am (Kd.R_lower ho2 (below_size bw)); replace HB := am (below_step bw hb); clear hb ho2)); go_ret; exact ⟨_, by rfl, by exact HO106.out, HB.out⟩
def spec_l11Split.l0 : Nat → ByteArray → Int → Option (ByteArray × ByteArray)
 | 0, _, _ => none
 | k + 1, x5, x6 => if x6 ≥ 0 then (if 0 ≤ x6 then (if x6 < (x5.size : Int) then (if (bt x5 x6) = 124 then (if x6 ≤ (x5.size : Int) then (if 0 ≤ (wrap64 (x6 + 1)) then (if (wrap64 (x6 + 1)) ≤ (x5.size : Int) then (some (x5.extract 0 (x6 : Int).toNat, x5.extract ((wrap64 (x6 + 1)) : Int).toNat x5.size)) else (none)) else (none)) else (none)) else (spec_l11Split.l0 k x5 (wrap64 (x6 - 1)))) else (none)) else (none)) else (some (x5, (⟨#[97]⟩ : ByteArray)))
def spec_l11Split.f (k : Nat) (a0 : Int) : Option (ByteArray × ByteArray) := (spec_l11List.f).bind fun t107 => (if (t107.length : Int) = 0 then (none) else (if 0 ≤ (Int.tmod a0 (t107.length : Int)) then (if (Int.tmod a0 (t107.length : Int)) < (t107.length : Int) then (spec_l11Split.l0 k (rdOf ByteArray.empty t107 (Int.tmod a0 (t107.length : Int))) (wrap64 (((rdOf ByteArray.empty t107 (Int.tmod a0 (t107.length : Int))).size : Int) - 1))) else (none)) else (none)))
theorem spec_l11Split.mono_l : ∀ k, (∀ y0 y1, LeO (spec_l11Split.l0 k y0 y1) (spec_l11Split.l0 (k + 1) y0 y1))
 | 0 => fun _ _ r h => by simp [spec_l11Split.l0] at h
 | k + 1 => by
  have ih0 := spec_l11Split.mono_l k
  ·intro y0 y1; unfold spec_l11Split.l0; repeat' with_reducible first | exact ih0 _ _ | exact LeO.refl _ | refine LeO.ite ?_ ?_
theorem spec_l11Split.mono : ∀ a0 k, LeO (spec_l11Split.f k a0) (spec_l11Split.f (k + 1) a0) := by
 intro a0 k; have ih0 := spec_l11Split.mono_l k; unfold spec_l11Split.f; repeat' with_reducible first | exact ih0 _ _ | exact LeO.refl _ | refine LeO.ite ?_ ?_ | refine LeO.bind ?_ (fun _ => ?_)
theorem spec_l11Split.calls (k : Nat) (a0 : Int) (r1 : ByteArray) (r2 : ByteArray) (w : World) (h : spec_l11Split.f k a0 = some (r1, r2)) :
  Calls Try.prog 22 #[.int .i64 a0] w fun e w' => e = .returned (.tuple #[.string r1, .string r2]) ∧ Below w.heap.size w w' := by
 have HB := am (Below.refl w.heap.size w); have H := h; unfold spec_l11Split.f at H; clear h; rcases ob H, H with ⟨⟨t107, A2, H⟩, -⟩; by_cases c3 : (t107.length : Int) = 0
 ·rw [if_pos c3] at H; exact absurd H (by simp)
 ·rw [if_neg c3] at H; have c3b0 : ((t107.length : Int) == 0) = false := beq_eq_false_iff_ne.mpr c3; have c3b1 : ((t107.length : Int) != 0) = true := bne_iff_ne.mpr c3; have c3b2 : ¬ (t107 = []) := fun h_ => c3 (by rw [h_]; rfl)
  obtain ⟨ji4, hji4⟩ : ∃ j_ : Int, (Int.tmod a0 (t107.length : Int)) = j_ := ⟨_, rfl⟩; replace H : (if 0 ≤ (ji4) then (if (ji4) < (t107.length : Int) then (spec_l11Split.l0 k (rdOf ByteArray.empty t107 (ji4)) (wrap64 (((rdOf ByteArray.empty t107 (ji4)).size : Int) - 1))) else (none)) else (none)) = some (r1, r2) := by (rw [hji4] at H; exact H)
  (try rw [hji4] at A2); by_cases c5 : 0 ≤ (ji4)
  ·rw [if_pos c5] at H; have c5b0 : decide (0 ≤ (ji4)) = true := decide_eq_true c5; clear c5; rcases cn H, H with ⟨⟨c6b0, H⟩, -⟩; have H' := am H; clear H; go_enter Try.func22, Try.ntmps22; go_wp2_with ((go_at_call 32; (with_reducible refine (spec_l11List.calls  t107 _ A2.out).mono ?_); rintro e w7 ⟨v108, rfl, ho0, hb⟩; have HO109 := am (Kd.R_lower ho0 (below_size bw)); replace HB := am (below_step bw hb); (try clear hb ho0); obtain ⟨Ao8, co8, eo8⟩ := Kd.R_slice HO109.out; subst eo8; have p110 : 0 ≤ ((ji4) : Int) := oa; have q110 : (ji4) < (t107.length : Int) := oa; obtain ⟨ad110, e110, hx110_0⟩ := Kd.at_string (Kd.R_reads' HO109.out).2.2 (ji4) p110 q110; cases e110; replace p110 := eq_true p110; replace q110 := eq_true q110)); repeat (go_quiet (fail); try go_wp2_with (fail))
   go_loopg [6] k (fun kq v6 w' => ∃ (x6_1 : Int), v6 = .int .i64 x6_1 ∧ Aside0 (spec_l11Split.l0 kq (rdOf ByteArray.empty t107 (ji4)) x6_1 = some (r1, r2)) ∧ Aside0 (kq ≤ k) ∧ Aside0 (Below w.heap.size w w'))
   case atStart => exact ⟨(wrap64 (((rdOf ByteArray.empty t107 (ji4)).size : Int) - 1)), (by rfl), H', ⟨Nat.le_refl _⟩, HB⟩
   case round =>
    clear H'; try clear c3
    try clear c3b0
    try clear c3b1
    try clear c3b2
    try clear c5b0
    try clear c6b0
    try clear hx110_0
    try clear p110
    try clear q110
    obtain ⟨x6_1, rfl, HA, HK1, HB⟩ := hrel
    cases gk with
    | zero => exact absurd HA.out (by simp [spec_l11Split.l0])
    | succ k1 =>
     have H := HA.out; clear HA; simp only [spec_l11Split.l0] at H; rcases cG H, H with ⟨⟨c9b0, H⟩ | ⟨c9b0, H⟩, -⟩
     ·rcases cn H, H with ⟨⟨c10b0, H⟩, -⟩; rcases cn H, H with ⟨⟨c11b0, H⟩, -⟩; rcases ce H, H with ⟨⟨-, c13b0, c13b1, H⟩ | ⟨c13, c13b0, c13b1, H⟩, -⟩
      ·have c14b0 := eq_true (oa : 0 ≤ x6_1); rcases cm H, H with ⟨⟨c15, H⟩, -⟩; have c15b0 := eq_true c15; have c15b1 : decide (x6_1 ≤ ((rdOf ByteArray.empty t107 (ji4)).size : Int)) = true := decide_eq_true c15; clear c15; obtain ⟨ji16, hji16⟩ : ∃ j_ : Int, (wrap64 (x6_1 + 1)) = j_ := ⟨_, rfl⟩; replace H : (if 0 ≤ (ji16) then (if (ji16) ≤ ((rdOf ByteArray.empty t107 (ji4)).size : Int) then (some ((rdOf ByteArray.empty t107 (ji4)).extract 0 (x6_1 : Int).toNat, (rdOf ByteArray.empty t107 (ji4)).extract ((ji16) : Int).toNat (rdOf ByteArray.empty t107 (ji4)).size)) else (none)) else (none)) = some (r1, r2) := by (rw [hji16] at H; exact H)
       have hji16w : (IntKind.i64.wrap (x6_1 + 1)) = ji16 := (i64_w _).trans hji16; rcases cm H, H with ⟨⟨c17, H⟩, -⟩; have c17b0 := eq_true c17; have c17b1 : decide (0 ≤ (ji16)) = true := decide_eq_true c17; clear c17; rcases cm H, H with ⟨⟨c18, H⟩, -⟩; have c18b0 := eq_true c18; have c18b1 : decide ((ji16) ≤ ((rdOf ByteArray.empty t107 (ji4)).size : Int)) = true := decide_eq_true c18; clear c18; obtain ⟨rfl, rfl⟩ := s2 H; obtain ⟨p12, q12, hx12⟩ := bt_w (rdOf ByteArray.empty t107 (ji4)) x6_1 oa oa; go_wp2; repeat (go_quiet (fail); try go_wp2)
       go_ret2
       exact ⟨by rfl, bw⟩
      ·have H' := am H; clear H; obtain ⟨p12, q12, hx12⟩ := bt_w (rdOf ByteArray.empty t107 (ji4)) x6_1 oa oa; go_wp2; repeat (go_quiet (fail); try go_wp2)
       go_roundg k1
       case measure => have := HK1.out; omega
       case rel => exact ⟨(wrap64 (x6_1 - 1)), (by rfl), H', ⟨by have := HK1.out; omega⟩, HB⟩
     ·obtain ⟨rfl, rfl⟩ := s2 H; go_wp2; repeat (go_quiet (fail); try go_wp2)
      go_ret2
      exact ⟨by rfl, HB.out⟩
  ·rw [if_neg c5] at H; exact absurd H (by simp)
def spec_l01Byte.f (s0_0 : List Int) (s0_1 : Int) (s0_2 : Int) : Option (Int × Int × Int) := if s0_1 < (s0_0.length : Int) then (if 0 ≤ s0_1 then (some (Go.bits .and .i64 (wrap64 ((Go.bits .and .i64 (Go.bits .xor .i64 ((wrap64 ((wrap64 (s0_2 * 6364136223846793005)) + 1442695040888963407)) / 8589934592) ((wrap64 ((wrap64 (s0_2 * 6364136223846793005)) + 1442695040888963407)) / 35184372088832)) 255) + (wrap64 (rd s0_0 s0_1)))) 255, wrap64 (s0_1 + 1), wrap64 ((wrap64 (s0_2 * 6364136223846793005)) + 1442695040888963407))) else (none)) else (some (Go.bits .and .i64 (Go.bits .xor .i64 ((wrap64 ((wrap64 (s0_2 * 6364136223846793005)) + 1442695040888963407)) / 8589934592) ((wrap64 ((wrap64 (s0_2 * 6364136223846793005)) + 1442695040888963407)) / 35184372088832)) 255, s0_1, wrap64 ((wrap64 (s0_2 * 6364136223846793005)) + 1442695040888963407)))
theorem spec_l01Byte.calls (g : Nat) (s0_0 : List Int) (s0_1 : Int) (s0_2 : Int) (r1 : Int) (r2 : Int) (r3 : Int) (w0 w : World) (hI : IsS46 w0 w g s0_0 s0_1 s0_2) (hB : Below w0.heap.size w0 w) (h : spec_l01Byte.f s0_0 s0_1 s0_2 = some (r1, r2, r3)) :
  Calls Try.prog 33 #[.pointer (some ⟨g, 0, none⟩)] w fun e w' => e = .returned (.int .i64 r1) ∧ IsS46 w0 w' g s0_0 r2 r3 ∧ Below w0.heap.size w0 w' ∧ KeepBut w w' g none := by
 have HI0 := am hI; have HK := am (KeepBut.refl w g none); have HL := am hB.size; clear hI; have HW0 := am hB.size; have HB := am hB; clear hB; have H := h; unfold spec_l01Byte.f at H; clear h; rcases cd H, H with ⟨⟨c2b0, H⟩ | ⟨c2b0, H⟩, -⟩
 ·rcases cn H, H with ⟨⟨c3b0, H⟩, -⟩; obtain ⟨rfl, rfl, rfl⟩ := s3 H; obtain ⟨ASz4_0, cSz4_0, HGz4, hgz4, HSz4_0⟩ := HI0.out; have hcz4_0 := cellS46_0 HGz4; have hcz4_1 := cellS46_1 HGz4; have hcz4_2 := cellS46_2 HGz4; have hfz4_1 := blk_frozen HGz4 1; have hfz4_2 := blk_frozen HGz4 2; clear HGz4 hgz4; have p111 : 0 ≤ (s0_1 : Int) := oa; have q111 : s0_1 < (s0_0.length : Int) := oa; obtain ⟨ad111, e111, hx111_0⟩ := Kd.at_int HSz4_0 s0_1 p111 q111; cases e111; have hn111_0 : ad111.block ≠ g := Nat.ne_of_lt (Nat.lt_of_lt_of_le (by have := World.block_lt_of_cell? _ _ hx111_0; (rwa [add_block] at this)) (IsS46.ge HI0.out)); replace hx111_0 := pw_cell_below HB.out hx111_0; replace hx111_0 := fx ⟨g, 2, none⟩ (.int .i64 (wrap64 ((wrap64 (s0_2 * 6364136223846793005)) + 1442695040888963407))) hx111_0; (try have hy111_0 := dn1 hx111_0); clear hn111_0; replace p111 := eq_true p111; replace q111 := eq_true q111; go_enter Try.func33, Try.ntmps33; go_wp2; repeat (go_quiet (fail); try go_wp2)
  go_ret; exact ⟨by rfl, by repeat ((with_reducible first | exact HI0.out | apply IsS46.drewN | apply IsS46.set_1 | apply IsS46.set_2)), by repeat ((with_reducible first | exact HB.out | apply pw_below_drewN | refine below_set ?_ (IsS46.ge HI0.out))), by repeat ((with_reducible first | exact HK.out | apply KeepBut.set_ | apply keep_drewN))⟩
 ·obtain ⟨rfl, rfl, rfl⟩ := s3 H; obtain ⟨ASz5_0, cSz5_0, HGz5, hgz5, HSz5_0⟩ := HI0.out; have hcz5_0 := cellS46_0 HGz5; have hcz5_1 := cellS46_1 HGz5; have hcz5_2 := cellS46_2 HGz5; have hfz5_1 := blk_frozen HGz5 1; have hfz5_2 := blk_frozen HGz5 2; clear HGz5 hgz5; go_enter Try.func33, Try.ntmps33; go_wp2; repeat (go_quiet (fail); try go_wp2)
  go_ret; exact ⟨by rfl, by repeat ((with_reducible first | exact HI0.out | apply IsS46.drewN | apply IsS46.set_2)), by repeat ((with_reducible first | exact HB.out | apply pw_below_drewN | refine below_set ?_ (IsS46.ge HI0.out))), by repeat ((with_reducible first | exact HK.out | apply KeepBut.set_ | apply keep_drewN))⟩
def spec_l01Below.f (s0_0 : List Int) (s0_1 : Int) (s0_2 : Int) (a1 : Int) : Option (Int × Int × Int) := if a1 ≤ 0 then (some (0, s0_1, s0_2)) else (if a1 ≤ 256 then ((spec_l01Byte.f s0_0 s0_1 s0_2).bind fun bt112 => (if a1 = 0 then (none) else (some (Int.tmod bt112.1 a1, bt112.2.1, bt112.2.2)))) else ((spec_l01Byte.f s0_0 s0_1 s0_2).bind fun bt115 => ((spec_l01Byte.f s0_0 bt115.2.1 bt115.2.2).bind fun bt118 => ((spec_l01Byte.f s0_0 bt118.2.1 bt118.2.2).bind fun bt121 => ((spec_l01Byte.f s0_0 bt121.2.1 bt121.2.2).bind fun bt124 => (if a1 = 0 then (none) else (some (Int.tmod (wrap64 ((wrap64 ((wrap64 ((wrap64 (bt115.1 * 16777216)) + (wrap64 (bt118.1 * 65536)))) + (wrap64 (bt121.1 * 256)))) + bt124.1)) a1, bt124.2.1, bt124.2.2))))))))
theorem spec_l01Below.calls (g : Nat) (s0_0 : List Int) (s0_1 : Int) (s0_2 : Int) (a1 : Int) (r1 : Int) (r2 : Int) (r3 : Int) (w0 w : World) (hI : IsS46 w0 w g s0_0 s0_1 s0_2) (hB : Below w0.heap.size w0 w) (h : spec_l01Below.f s0_0 s0_1 s0_2 a1 = some (r1, r2, r3)) :
  Calls Try.prog 23 #[.pointer (some ⟨g, 0, none⟩), .int .i64 a1] w fun e w' => e = .returned (.int .i64 r1) ∧ IsS46 w0 w' g s0_0 r2 r3 ∧ Below w0.heap.size w0 w' ∧ KeepBut w w' g none := by
 have HI0 := am hI; have HK := am (KeepBut.refl w g none); have HL := am hB.size; clear hI; have HW0 := am hB.size; have HB := am hB; clear hB; have H := h; unfold spec_l01Below.f at H; clear h; rcases cd H, H with ⟨⟨c3b0, H⟩ | ⟨c3b0, H⟩, -⟩
 ·obtain ⟨rfl, rfl, rfl⟩ := s3 H; go_enter Try.func23, Try.ntmps23; go_wp2; go_ret; exact ⟨by rfl, HI0.out, HB.out, HK.out⟩
 ·rcases cd H, H with ⟨⟨c4b0, H⟩ | ⟨c4b0, H⟩, -⟩
  ·replace H := Option.bind_eq_some_iff.mp H; obtain ⟨⟨t112, t113, t114⟩, A50, H⟩ := H; replace H : (if a1 = 0 then (none) else (some (Int.tmod t112 a1, t113, t114))) = some (r1, r2, r3) := H; have A5 := am A50; clear A50; by_cases c6 : a1 = 0
   ·rw [if_pos c6] at H; exact absurd H (by simp)
   ·rw [if_neg c6] at H; have c6b0 : (a1 == 0) = false := beq_eq_false_iff_ne.mpr c6; have c6b1 : (a1 != 0) = true := bne_iff_ne.mpr c6; obtain ⟨rfl, rfl, rfl⟩ := s3 H; go_enter Try.func23, Try.ntmps23; go_wp2_with (((with_reducible refine gc 33 ?_); refine gl_ 14 Try.func33 #[.pointer (some ⟨g, 0, none⟩)] ?_; (with_reducible refine (spec_l01Byte.calls g s0_0 s0_1 s0_2 t112 t113 t114 w0 _ HI0.out HB.out A5.out).mono ?_); rintro e w7 ⟨rfl, hi, hb, hk⟩; refine ⟨_, rfl, ?_⟩; replace HK := am (KeepBut.trans HK.out hk (.inl rfl)); replace HB := am (hb); replace HI0 := am (hi); (try clear hb hk hi))); go_ret; exact ⟨by rfl, HI0.out, HB.out, HK.out⟩
  ·replace H := Option.bind_eq_some_iff.mp H; obtain ⟨⟨t115, t116, t117⟩, A80, H⟩ := H; replace H : ((spec_l01Byte.f s0_0 t116 t117).bind fun bt118 => ((spec_l01Byte.f s0_0 bt118.2.1 bt118.2.2).bind fun bt121 => ((spec_l01Byte.f s0_0 bt121.2.1 bt121.2.2).bind fun bt124 => (if a1 = 0 then (none) else (some (Int.tmod (wrap64 ((wrap64 ((wrap64 ((wrap64 (t115 * 16777216)) + (wrap64 (bt118.1 * 65536)))) + (wrap64 (bt121.1 * 256)))) + bt124.1)) a1, bt124.2.1, bt124.2.2)))))) = some (r1, r2, r3) := H; have A8 := am A80; clear A80; replace H := Option.bind_eq_some_iff.mp H; obtain ⟨⟨t118, t119, t120⟩, A90, H⟩ := H; replace H : ((spec_l01Byte.f s0_0 t119 t120).bind fun bt121 => ((spec_l01Byte.f s0_0 bt121.2.1 bt121.2.2).bind fun bt124 => (if a1 = 0 then (none) else (some (Int.tmod (wrap64 ((wrap64 ((wrap64 ((wrap64 (t115 * 16777216)) + (wrap64 (t118 * 65536)))) + (wrap64 (bt121.1 * 256)))) + bt124.1)) a1, bt124.2.1, bt124.2.2))))) = some (r1, r2, r3) := H; have A9 := am A90; clear A90; replace H := Option.bind_eq_some_iff.mp H; obtain ⟨⟨t121, t122, t123⟩, A100, H⟩ := H; replace H : ((spec_l01Byte.f s0_0 t122 t123).bind fun bt124 => (if a1 = 0 then (none) else (some (Int.tmod (wrap64 ((wrap64 ((wrap64 ((wrap64 (t115 * 16777216)) + (wrap64 (t118 * 65536)))) + (wrap64 (t121 * 256)))) + bt124.1)) a1, bt124.2.1, bt124.2.2)))) = some (r1, r2, r3) := H; have A10 := am A100; clear A100; replace H := Option.bind_eq_some_iff.mp H; obtain ⟨⟨t124, t125, t126⟩, A110, H⟩ := H; replace H : (if a1 = 0 then (none) else (some (Int.tmod (wrap64 ((wrap64 ((wrap64 ((wrap64 (t115 * 16777216)) + (wrap64 (t118 * 65536)))) + (wrap64 (t121 * 256)))) + t124)) a1, t125, t126))) = some (r1, r2, r3) := H; have A11 := am A110; clear A110; by_cases c12 : a1 = 0
   ·rw [if_pos c12] at H; exact absurd H (by simp)
   ·rw [if_neg c12] at H; have c12b0 : (a1 == 0) = false := beq_eq_false_iff_ne.mpr c12; have c12b1 : (a1 != 0) = true := bne_iff_ne.mpr c12; obtain ⟨rfl, rfl, rfl⟩ := s3 H; go_enter Try.func23, Try.ntmps23; go_wp2_with (first | ((with_reducible refine gc 33 ?_); refine gl_ 18 Try.func33 #[.pointer (some ⟨g, 0, none⟩)] ?_; (with_reducible refine (spec_l01Byte.calls g s0_0 s0_1 s0_2 t115 t116 t117 w0 _ HI0.out HB.out A8.out).mono ?_); rintro e w13 ⟨rfl, hi, hb, hk⟩; refine ⟨_, rfl, ?_⟩; replace HK := am (KeepBut.trans HK.out hk (.inl rfl)); replace HB := am (hb); replace HI0 := am (hi); (try clear hb hk hi)) | ((with_reducible refine gc 33 ?_); refine gl_ 20 Try.func33 #[.pointer (some ⟨g, 0, none⟩)] ?_; (with_reducible refine (spec_l01Byte.calls g s0_0 t116 t117 t118 t119 t120 w0 _ HI0.out HB.out A9.out).mono ?_); rintro e w14 ⟨rfl, hi, hb, hk⟩; refine ⟨_, rfl, ?_⟩; replace HK := am (KeepBut.trans HK.out hk (.inl rfl)); replace HB := am (hb); replace HI0 := am (hi); (try clear hb hk hi)) | ((with_reducible refine gc 33 ?_); refine gl_ 22 Try.func33 #[.pointer (some ⟨g, 0, none⟩)] ?_; (with_reducible refine (spec_l01Byte.calls g s0_0 t119 t120 t121 t122 t123 w0 _ HI0.out HB.out A10.out).mono ?_); rintro e w15 ⟨rfl, hi, hb, hk⟩; refine ⟨_, rfl, ?_⟩; replace HK := am (KeepBut.trans HK.out hk (.inl rfl)); replace HB := am (hb); replace HI0 := am (hi); (try clear hb hk hi)) | ((with_reducible refine gc 33 ?_); refine gl_ 24 Try.func33 #[.pointer (some ⟨g, 0, none⟩)] ?_; (with_reducible refine (spec_l01Byte.calls g s0_0 t122 t123 t124 t125 t126 w0 _ HI0.out HB.out A11.out).mono ?_); rintro e w16 ⟨rfl, hi, hb, hk⟩; refine ⟨_, rfl, ?_⟩; replace HK := am (KeepBut.trans HK.out hk (.inl rfl)); replace HB := am (hb); replace HI0 := am (hi); (try clear hb hk hi))); go_ret; exact ⟨by rfl, HI0.out, HB.out, HK.out⟩
def spec_l01In.f (a0 : Int) (a1 : Int) (a2 : Int) : Option (Bool) := if a0 ≥ a1 then (some (decide (a0 ≤ a2))) else (some false)
theorem spec_l01In.calls (a0 : Int) (a1 : Int) (a2 : Int) (r : Bool) (w : World) (h : spec_l01In.f a0 a1 a2 = some r) :
  Calls Try.prog 21 #[.int .i64 a0, .int .i64 a1, .int .i64 a2] w fun e w' => e = .returned (.bool r) ∧ Drawn0 w w' := by
 have H : (if a0 ≥ a1 then (some (decide (a0 ≤ a2))) else (some false)) = some r := h; clear h; rcases cG H, H with ⟨⟨c4b0, H⟩ | ⟨c4b0, H⟩, -⟩
 ·obtain rfl := si H; go_enter Try.func21, Try.ntmps21; go_wp2; go_ret; exact ⟨by rfl, by repeat (exact Drawn0.refl _)⟩
 ·obtain rfl := si H; go_enter Try.func21, Try.ntmps21; go_wp2; go_ret; exact ⟨by rfl, by repeat (exact Drawn0.refl _)⟩
def spec_l10Figure.f (a0 : Int) : Option (Bool) := if a0 ≥ 48 then (some (decide (a0 ≤ 57))) else (some false)
theorem spec_l10Figure.calls (a0 : Int) (r : Bool) (w : World) (h : spec_l10Figure.f a0 = some r) :
  Calls Try.prog 54 #[.int .u8 a0] w fun e w' => e = .returned (.bool r) ∧ Drawn0 w w' := by
 have H : (if a0 ≥ 48 then (some (decide (a0 ≤ 57))) else (some false)) = some r := h; clear h; rcases cG H, H with ⟨⟨c2b0, H⟩ | ⟨c2b0, H⟩, -⟩
 ·obtain rfl := si H; go_enter Try.func54, Try.ntmps54; go_wp2; go_ret; exact ⟨by rfl, by repeat (exact Drawn0.refl _)⟩
 ·obtain rfl := si H; go_enter Try.func54, Try.ntmps54; go_wp2; go_ret; exact ⟨by rfl, by repeat (exact Drawn0.refl _)⟩
def spec_l10Letter.f (a0 : Int) : Option (Bool) := if a0 ≥ 97 then (if a0 ≤ 122 then (some true) else (if a0 ≥ 65 then (some (decide (a0 ≤ 90))) else (some false))) else (if a0 ≥ 65 then (some (decide (a0 ≤ 90))) else (some false))
theorem spec_l10Letter.calls (a0 : Int) (r : Bool) (w : World) (h : spec_l10Letter.f a0 = some r) :
  Calls Try.prog 58 #[.int .u8 a0] w fun e w' => e = .returned (.bool r) ∧ Drawn0 w w' := by
 have H := h; unfold spec_l10Letter.f at H; clear h; rcases cG H, H with ⟨⟨c2b0, H⟩ | ⟨c2b0, H⟩, -⟩
 ·rcases cd H, H with ⟨⟨c3b0, H⟩ | ⟨c3b0, H⟩, -⟩
  ·obtain rfl := si H; go_enter Try.func58, Try.ntmps58; go_wp2; go_ret; exact ⟨by rfl, by repeat (exact Drawn0.refl _)⟩
  ·rcases cG H, H with ⟨⟨c4b0, H⟩ | ⟨c4b0, H⟩, -⟩
   ·obtain rfl := si H; go_enter Try.func58, Try.ntmps58; go_wp2; go_ret; exact ⟨by rfl, by repeat (exact Drawn0.refl _)⟩
   ·obtain rfl := si H; go_enter Try.func58, Try.ntmps58; go_wp2; go_ret; exact ⟨by rfl, by repeat (exact Drawn0.refl _)⟩
 ·rcases cG H, H with ⟨⟨c5b0, H⟩ | ⟨c5b0, H⟩, -⟩
  ·obtain rfl := si H; go_enter Try.func58, Try.ntmps58; go_wp2; go_ret; exact ⟨by rfl, by repeat (exact Drawn0.refl _)⟩
  ·obtain rfl := si H; go_enter Try.func58, Try.ntmps58; go_wp2; go_ret; exact ⟨by rfl, by repeat (exact Drawn0.refl _)⟩
def spec_l05Byte.f (a0 : Int) : Option (Bool) := if a0 ≥ 97 then (if a0 ≤ 122 then (some true) else (if a0 ≥ 48 then (some (decide (a0 ≤ 57))) else (some false))) else (if a0 ≥ 48 then (some (decide (a0 ≤ 57))) else (some false))
theorem spec_l05Byte.calls (a0 : Int) (r : Bool) (w : World) (h : spec_l05Byte.f a0 = some r) :
  Calls Try.prog 76 #[.int .u8 a0] w fun e w' => e = .returned (.bool r) ∧ Drawn0 w w' := by
 have H := h; unfold spec_l05Byte.f at H; clear h; rcases cG H, H with ⟨⟨c2b0, H⟩ | ⟨c2b0, H⟩, -⟩
 ·rcases cd H, H with ⟨⟨c3b0, H⟩ | ⟨c3b0, H⟩, -⟩
  ·obtain rfl := si H; go_enter Try.func76, Try.ntmps76; go_wp2; go_ret; exact ⟨by rfl, by repeat (exact Drawn0.refl _)⟩
  ·rcases cG H, H with ⟨⟨c4b0, H⟩ | ⟨c4b0, H⟩, -⟩
   ·obtain rfl := si H; go_enter Try.func76, Try.ntmps76; go_wp2; go_ret; exact ⟨by rfl, by repeat (exact Drawn0.refl _)⟩
   ·obtain rfl := si H; go_enter Try.func76, Try.ntmps76; go_wp2; go_ret; exact ⟨by rfl, by repeat (exact Drawn0.refl _)⟩
 ·rcases cG H, H with ⟨⟨c5b0, H⟩ | ⟨c5b0, H⟩, -⟩
  ·obtain rfl := si H; go_enter Try.func76, Try.ntmps76; go_wp2; go_ret; exact ⟨by rfl, by repeat (exact Drawn0.refl _)⟩
  ·obtain rfl := si H; go_enter Try.func76, Try.ntmps76; go_wp2; go_ret; exact ⟨by rfl, by repeat (exact Drawn0.refl _)⟩
mutual
def spec_l05Rows.l0 : Nat → ByteArray → ByteArray → Int → Option (ByteArray × Bool)
 | 0, _, _, _ => none
 | k + 1, x0, x4, x5 => if x5 < (x0.size : Int) then (if 0 ≤ x5 then ((spec_l05Byte.f (bt x0 x5)).bind fun t128 => (if t128 = true then (if (wrap64 (x5 + 2)) < (x0.size : Int) then (if 0 ≤ (wrap64 (x5 + 1)) then (if (wrap64 (x5 + 1)) < (x0.size : Int) then (spec_l05Rows.j1 k x0 x4 x5 (bt x0 x5) (wrap64 (x5 + 1)) ((bt x0 (wrap64 (x5 + 1))) == 45)) else (none)) else (none)) else (spec_l05Rows.j1 k x0 x4 x5 (bt x0 x5) (wrap64 (x5 + 1)) false)) else (some ((⟨#[]⟩ : ByteArray), false)))) else (none)) else ((spec_l01In.f (x0.size : Int) 1 12).bind fun t127 => (some (x4, t127)))
def spec_l05Rows.j1 : Nat → ByteArray → ByteArray → Int → Int → Int → Bool → Option (ByteArray × Bool)
 | 0, _, _, _, _, _, _ => none
 | k + 1, x0, x4, x5, x6, x7, x33 => if x33 = true then (if 0 ≤ (wrap64 (x5 + 2)) then (if (wrap64 (x5 + 2)) < (x0.size : Int) then ((spec_l05Byte.f (bt x0 (wrap64 (x5 + 2)))).bind fun t129 => (if t129 = true then (if 0 ≤ x5 then (if x5 < (x0.size : Int) then (if (bt x0 (wrap64 (x5 + 2))) < (bt x0 x5) then (some ((⟨#[]⟩ : ByteArray), false)) else (if ((decide ((bt x0 (wrap64 (x5 + 2))) > 57)) != (decide ((bt x0 x5) > 57))) = true then (some ((⟨#[]⟩ : ByteArray), false)) else ((some (([bt x0 x5, bt x0 (wrap64 (x5 + 2))] : List Int) : List Int)).bind fun y130 => (if x4.size + (strOfNums y130).size ≤ 9223372036854775807 then (spec_l05Rows.l0 k x0 (x4 ++ (strOfNums y130)) (wrap64 (x5 + 3))) else (none))))) else (none)) else (none)) else (some ((⟨#[]⟩ : ByteArray), false)))) else (none)) else (none)) else (if 0 ≤ x5 then (if x5 < (x0.size : Int) then ((some (([bt x0 x5, x6] : List Int) : List Int)).bind fun y133 => (if x4.size + (strOfNums y133).size ≤ 9223372036854775807 then (spec_l05Rows.l0 k x0 (x4 ++ (strOfNums y133)) x7) else (none))) else (none)) else (none))
end
def spec_l05Rows.f (k : Nat) (a0 : ByteArray) : Option (ByteArray × Bool) := spec_l05Rows.l0 k a0 (⟨#[]⟩ : ByteArray) 0
theorem spec_l05Rows.mono_l : ∀ k, (∀ y0 y1 y2, LeO (spec_l05Rows.l0 k y0 y1 y2) (spec_l05Rows.l0 (k + 1) y0 y1 y2)) ∧ (∀ y0 y1 y2 y3 y4 y5, LeO (spec_l05Rows.j1 k y0 y1 y2 y3 y4 y5) (spec_l05Rows.j1 (k + 1) y0 y1 y2 y3 y4 y5))
 | 0 => ⟨fun _ _ _ r h => by simp [spec_l05Rows.l0] at h, fun _ _ _ _ _ _ r h => by simp [spec_l05Rows.j1] at h⟩
 | k + 1 => by
  obtain ⟨ih0, ih1⟩ := spec_l05Rows.mono_l k; refine ⟨?_, ?_⟩
  ·intro y0 y1 y2; unfold spec_l05Rows.l0; repeat' with_reducible first | exact ih1 _ _ _ _ _ _ | exact LeO.refl _ | refine LeO.ite ?_ ?_ | refine LeO.bind ?_ (fun _ => ?_)
  ·intro y0 y1 y2 y3 y4 y5; unfold spec_l05Rows.j1; repeat' with_reducible first | exact ih0 _ _ _ | exact LeO.refl _ | refine LeO.ite ?_ ?_ | refine LeO.bind ?_ (fun _ => ?_)
theorem spec_l05Rows.mono : ∀ a0 k, LeO (spec_l05Rows.f k a0) (spec_l05Rows.f (k + 1) a0) := by
 intro a0 k; obtain ⟨ih0, ih1⟩ := spec_l05Rows.mono_l k; unfold spec_l05Rows.f; repeat' (with_reducible exact ih0 _ _ _)
theorem spec_l05Rows.calls (k : Nat) (a0 : ByteArray) (r1 : ByteArray) (r2 : Bool) (w : World) (h : spec_l05Rows.f k a0 = some (r1, r2)) :
  Calls Try.prog 70 #[.string a0] w fun e w' => e = .returned (.tuple #[.string r1, .bool r2]) ∧ Below w.heap.size w w' := by
 have HB := am (Below.refl w.heap.size w); have H : (spec_l05Rows.l0 k a0 (⟨#[]⟩ : ByteArray) 0) = some (r1, r2) := h; clear h; have H' := am H; clear H; go_enter Try.func70, Try.ntmps70; go_wp2; go_loopg [4, 5] k (fun kq v4 v5 w' => ∃ (x4_1 : ByteArray) (x5_1 : Int), v4 = .string x4_1 ∧ v5 = .int .i64 x5_1 ∧ Aside0 (spec_l05Rows.l0 kq a0 x4_1 x5_1 = some (r1, r2)) ∧ Aside0 (kq ≤ k) ∧ Aside0 (Below w.heap.size w w'))
 case atStart => exact ⟨((⟨#[]⟩ : ByteArray)), (0), (by rfl), (by rfl), H', ⟨Nat.le_refl _⟩, HB⟩
 case round =>
  clear H'; obtain ⟨x4_1, x5_1, rfl, rfl, HA, HK1, HB⟩ := hrel
  cases gk with
  | zero => exact absurd HA.out (by simp [spec_l05Rows.l0])
  | succ k1 =>
   have H := HA.out; clear HA; simp only [spec_l05Rows.l0] at H; rcases cd H, H with ⟨⟨c2b0, H⟩ | ⟨c2b0, H⟩, -⟩
   ·rcases cn H, H with ⟨⟨c3b0, H⟩, -⟩; rcases ob H, H with ⟨⟨t128, A5, H⟩, -⟩; rcases cb H, H with ⟨⟨rfl, H⟩ | ⟨rfl, H⟩, -⟩
    ·have HC8 := am H; clear H; obtain ⟨p4, q4, hx4⟩ := bt_w a0 x5_1 oa oa; go_upto_region 8 with (((with_reducible refine gc 76 ?_); refine gl_ 15 Try.func76 #[.int .u8 (bt a0 x5_1)] ?_; (with_reducible refine (spec_l05Byte.calls (bt a0 x5_1) true _ A5.out).mono ?_); rintro e w' ⟨rfl, ⟨nd, rfl⟩⟩; refine ⟨_, rfl, ?_⟩; obtain ⟨p7, q7, hx7⟩ := bt_w a0 x5_1 oa oa)); (try simp only [ap]); go_cut [33] (fun v33 wc => ∃ (kq : Nat) (x33_7 : Bool), v33 = .bool x33_7 ∧ Aside0 (spec_l05Rows.j1 kq a0 x4_1 x5_1 (bt a0 x5_1) (wrap64 (x5_1 + 1)) x33_7 = some (r1, r2)) ∧ Aside0 (kq ≤ k1) ∧ Aside0 (Below w.heap.size w wc))
     case first =>
      have H := HC8.out; clear HC8; rcases cd H, H with ⟨⟨c9b0, H⟩ | ⟨c9b0, H⟩, -⟩
      ·(skip); obtain ⟨ji10, hji10⟩ : ∃ j_ : Int, (wrap64 (x5_1 + 1)) = j_ := ⟨_, rfl⟩; replace H : (if 0 ≤ (ji10) then (if (ji10) < (a0.size : Int) then (spec_l05Rows.j1 k1 a0 x4_1 x5_1 (bt a0 x5_1) ji10 ((bt a0 (ji10)) == 45)) else (none)) else (none)) = some (r1, r2) := by (rw [hji10] at H; exact H)
       have hji10w : (IntKind.i64.wrap (x5_1 + 1)) = ji10 := (i64_w _).trans hji10; rcases cn H, H with ⟨⟨c11b0, H⟩, -⟩; rcases cn H, H with ⟨⟨c12b0, H⟩, -⟩; have H' := am H; clear H; obtain ⟨p13, q13, hx13⟩ := bt_w a0 (ji10) oa oa; go_wp2; go_meet
       case rel => exact ⟨_, (((bt a0 (ji10)) == 45)), (by rfl), ⟨by (subst hji10; exact H'.out)⟩, ⟨by have := HK1.out; omega⟩, ⟨bw⟩⟩
      ·(skip); have H' := am H; clear H; go_wp2; go_meet
       case rel => exact ⟨_, (false), (by rfl), H', ⟨by have := HK1.out; omega⟩, ⟨bw⟩⟩
     case rest =>
      clear HC8; try clear c2b0
      try clear c3b0
      try clear p4
      try clear q4
      try clear hx4
      try clear p7
      try clear q7
      try clear hx7
      obtain ⟨kq, x33_7, rfl, HA, HJ7, HB⟩ := hcut
      cases kq with
      | zero => exact absurd HA.out (by simp [spec_l05Rows.j1])
      | succ kj7 =>
       have H := HA.out; clear HA; simp only [spec_l05Rows.j1] at H; rcases cb H, H with ⟨⟨rfl, H⟩ | ⟨rfl, H⟩, -⟩
       ·obtain ⟨ji15, hji15⟩ : ∃ j_ : Int, (wrap64 (x5_1 + 2)) = j_ := ⟨_, rfl⟩; replace H : (if 0 ≤ (ji15) then (if (ji15) < (a0.size : Int) then ((spec_l05Byte.f (bt a0 (ji15))).bind fun t129 => (if t129 = true then (if 0 ≤ x5_1 then (if x5_1 < (a0.size : Int) then (if (bt a0 (ji15)) < (bt a0 x5_1) then (some ((⟨#[]⟩ : ByteArray), false)) else (if ((decide ((bt a0 (ji15)) > 57)) != (decide ((bt a0 x5_1) > 57))) = true then (some ((⟨#[]⟩ : ByteArray), false)) else ((some (([bt a0 x5_1, bt a0 (ji15)] : List Int) : List Int)).bind fun y130 => (if x4_1.size + (strOfNums y130).size ≤ 9223372036854775807 then (spec_l05Rows.l0 kj7 a0 (x4_1 ++ (strOfNums y130)) (wrap64 (x5_1 + 3))) else (none))))) else (none)) else (none)) else (some ((⟨#[]⟩ : ByteArray), false)))) else (none)) else (none)) = some (r1, r2) := by (rw [hji15] at H; exact H)
        have hji15w : (IntKind.i64.wrap (x5_1 + 2)) = ji15 := (i64_w _).trans hji15; rcases cn H, H with ⟨⟨c16b0, H⟩, -⟩; rcases cn H, H with ⟨⟨c17b0, H⟩, -⟩; rcases ob H, H with ⟨⟨t129, A19, H⟩, -⟩; rcases cb H, H with ⟨⟨rfl, H⟩ | ⟨rfl, H⟩, -⟩
        ·rcases cn H, H with ⟨⟨c21b0, H⟩, -⟩; rcases cn H, H with ⟨⟨c22b0, H⟩, -⟩; rcases cd H, H with ⟨⟨c24b0, H⟩ | ⟨c24b0, H⟩, -⟩
         ·obtain ⟨rfl, rfl⟩ := s2 H; obtain ⟨p18, q18, hx18⟩ := bt_w a0 (ji15) oa oa; go_wp2_with (((with_reducible refine gc 76 ?_); refine gl_ 41 Try.func76 #[.int .u8 (bt a0 (ji15))] ?_; (with_reducible refine (spec_l05Byte.calls (bt a0 (ji15)) true _ A19.out).mono ?_); rintro e w' ⟨rfl, ⟨nd, rfl⟩⟩; refine ⟨_, rfl, ?_⟩; obtain ⟨p23, q23, hx23⟩ := bt_w a0 x5_1 oa oa)); go_ret2
          exact ⟨by rfl, bw⟩
         ·by_cases c26 : ((decide ((bt a0 (ji15)) > 57)) != (decide ((bt a0 x5_1) > 57))) = true
          ·rw [if_pos c26] at H; have c26b0 : ((decide ((bt a0 (ji15)) > 57)) != (decide ((bt a0 x5_1) > 57))) = true := c26; (try (have c26b1 : decide ((decide ((bt a0 (ji15)) > 57)) = (decide ((bt a0 x5_1) > 57))) = false := by simpa using c26)); (try (have c26b2 : ((decide ((bt a0 (ji15)) > 57)) == (decide ((bt a0 x5_1) > 57))) = false := by simpa using c26)); (try (have c26b3 : ¬ ((decide ((bt a0 (ji15)) > 57)) = (decide ((bt a0 x5_1) > 57))) := by simpa using c26)); clear c26; obtain ⟨rfl, rfl⟩ := s2 H; obtain ⟨p18, q18, hx18⟩ := bt_w a0 (ji15) oa oa; go_wp2_with (((with_reducible refine gc 76 ?_); refine gl_ 41 Try.func76 #[.int .u8 (bt a0 (ji15))] ?_; (with_reducible refine (spec_l05Byte.calls (bt a0 (ji15)) true _ A19.out).mono ?_); rintro e w' ⟨rfl, ⟨nd, rfl⟩⟩; refine ⟨_, rfl, ?_⟩; obtain ⟨p23, q23, hx23⟩ := bt_w a0 x5_1 oa oa; obtain ⟨p25, q25, hx25⟩ := bt_w a0 x5_1 oa oa)); go_ret2
           exact ⟨by rfl, bw⟩
          ·rw [if_neg c26] at H; have c26b0 : ((decide ((bt a0 (ji15)) > 57)) != (decide ((bt a0 x5_1) > 57))) = false := by simpa using c26
           (try (have c26b1 : decide ((decide ((bt a0 (ji15)) > 57)) = (decide ((bt a0 x5_1) > 57))) = true := by simpa using c26)); (try (have c26b2 : ((decide ((bt a0 (ji15)) > 57)) == (decide ((bt a0 x5_1) > 57))) = true := by simpa using c26)); clear c26; obtain ⟨y130, hy130⟩ : ∃ y_ : List Int, y_ = (([bt a0 x5_1, bt a0 (ji15)] : List Int)) := ⟨_, rfl⟩; replace H := (Option.bind_some _ _).symm.trans H; rw [← hy130] at H; have Ny130 := am hy130; clear hy130; rcases cm H, H with ⟨⟨c28, H⟩, -⟩; have c28b0 := eq_true c28; have c28b1 : decide (x4_1.size + (strOfNums y130).size ≤ 9223372036854775807) = true := decide_eq_true c28; try have c28b2 : (9223372036854775807 < x4_1.size + (strOfNums y130).size) = False := eq_false (Nat.not_lt.2 c28)
           have H' := am H; clear H; obtain ⟨p18, q18, hx18⟩ := bt_w a0 (ji15) oa oa; go_wp2_with (first | ((with_reducible refine gc 76 ?_); refine gl_ 41 Try.func76 #[.int .u8 (bt a0 (ji15))] ?_; (with_reducible refine (spec_l05Byte.calls (bt a0 (ji15)) true _ A19.out).mono ?_); rintro e w' ⟨rfl, ⟨nd, rfl⟩⟩; refine ⟨_, rfl, ?_⟩; obtain ⟨p23, q23, hx23⟩ := bt_w a0 x5_1 oa oa; obtain ⟨p25, q25, hx25⟩ := bt_w a0 x5_1 oa oa; obtain ⟨p27, q27, hx27⟩ := bt_w a0 x5_1 oa oa) | ((with_reducible refine gate_dst (N := 64) rfl ?_); refine Kd.R_lit (Kd.int .u8) _ 5 ?hg (N := 64) ?hd (xs := ([bt a0 x5_1, bt a0 (ji15)] : List Int)) (inner := [.int .u8 (bt a0 x5_1), .int .u8 (bt a0 (ji15))]) (ok := fun _ => True) (okp := fun _ => True) ?hr ?hp (fun _ hk => hk) trivial (Below.refl _ _) (Nat.le_refl _) (by simp) ?_; (case hd => rfl); (case hg => rfl); (case hr => (go_simp; done)); (case hp => exact (Reps.one (show Kd.M (Kd.int .u8) _ _ _ (bt a0 x5_1) [.int .u8 (bt a0 x5_1)] from rfl) (Reps.one (show Kd.M (Kd.int .u8) _ _ _ (bt a0 (ji15)) [.int .u8 (bt a0 (ji15))] from rfl) (Reps.none _ _)))); intro v131 w29 ho30 hb hg_ hnew_; clear hg_ hnew_; ((rw [← Ny130.out] at ho30)); have HO132 := am (Kd.R_lower ho30 (below_size bw)); replace HB := am (below_step bw hb); clear hb ho30; have hcv31 := own_string (P := Try.prog) Try.underlying22 Try.underlying5 Try.underlying9 (Kd.own_of_R HO132.out))); go_roundg kj7
           case measure => have := HK1.out; have := HJ7.out; omega
           case rel => exact ⟨(x4_1 ++ (strOfNums y130)), (wrap64 (x5_1 + 3)), (by rfl), (by rfl), H', ⟨by have := HK1.out; have := HJ7.out; omega⟩, HB⟩
        ·obtain ⟨rfl, rfl⟩ := s2 H; obtain ⟨p18, q18, hx18⟩ := bt_w a0 (ji15) oa oa; go_wp2_with (((with_reducible refine gc 76 ?_); refine gl_ 41 Try.func76 #[.int .u8 (bt a0 (ji15))] ?_; (with_reducible refine (spec_l05Byte.calls (bt a0 (ji15)) false _ A19.out).mono ?_); rintro e w' ⟨rfl, ⟨nd, rfl⟩⟩; refine ⟨_, rfl, ?_⟩)); go_ret2
         exact ⟨by rfl, bw⟩
       ·rcases cn H, H with ⟨⟨c32b0, H⟩, -⟩; rcases cn H, H with ⟨⟨c33b0, H⟩, -⟩; obtain ⟨y133, hy133⟩ : ∃ y_ : List Int, y_ = (([bt a0 x5_1, (bt a0 x5_1)] : List Int)) := ⟨_, rfl⟩; replace H := (Option.bind_some _ _).symm.trans H; rw [← hy133] at H; have Ny133 := am hy133; clear hy133; rcases cm H, H with ⟨⟨c35, H⟩, -⟩; have c35b0 := eq_true c35; have c35b1 : decide (x4_1.size + (strOfNums y133).size ≤ 9223372036854775807) = true := decide_eq_true c35; try have c35b2 : (9223372036854775807 < x4_1.size + (strOfNums y133).size) = False := eq_false (Nat.not_lt.2 c35)
        have H' := am H; clear H; obtain ⟨p34, q34, hx34⟩ := bt_w a0 x5_1 oa oa; go_wp2_with (((with_reducible refine gate_dst (N := 64) rfl ?_); refine Kd.R_lit (Kd.int .u8) _ 5 ?hg (N := 64) ?hd (xs := ([bt a0 x5_1, (bt a0 x5_1)] : List Int)) (inner := [.int .u8 (bt a0 x5_1), .int .u8 (bt a0 x5_1)]) (ok := fun _ => True) (okp := fun _ => True) ?hr ?hp (fun _ hk => hk) trivial (Below.refl _ _) (Nat.le_refl _) (by simp) ?_; (case hd => rfl); (case hg => rfl); (case hr => (go_simp; done)); (case hp => exact (Reps.one (show Kd.M (Kd.int .u8) _ _ _ (bt a0 x5_1) [.int .u8 (bt a0 x5_1)] from rfl) (Reps.one (show Kd.M (Kd.int .u8) _ _ _ (bt a0 x5_1) [.int .u8 (bt a0 x5_1)] from rfl) (Reps.none _ _)))); intro v134 w36 ho37 hb hg_ hnew_; clear hg_ hnew_; ((rw [← Ny133.out] at ho37)); have HO135 := am (Kd.R_lower ho37 (below_size bw)); replace HB := am (below_step bw hb); clear hb ho37; have hcv38 := own_string (P := Try.prog) Try.underlying22 Try.underlying5 Try.underlying9 (Kd.own_of_R HO135.out))); go_roundg kj7
        case measure => have := HK1.out; have := HJ7.out; omega
        case rel => exact ⟨(x4_1 ++ (strOfNums y133)), ((wrap64 (x5_1 + 1))), (by rfl), (by rfl), H', ⟨by have := HK1.out; have := HJ7.out; omega⟩, HB⟩
    ·obtain ⟨rfl, rfl⟩ := s2 H; obtain ⟨p4, q4, hx4⟩ := bt_w a0 x5_1 oa oa; go_wp2_with (((with_reducible refine gc 76 ?_); refine gl_ 15 Try.func76 #[.int .u8 (bt a0 x5_1)] ?_; (with_reducible refine (spec_l05Byte.calls (bt a0 x5_1) false _ A5.out).mono ?_); rintro e w' ⟨rfl, ⟨nd, rfl⟩⟩; refine ⟨_, rfl, ?_⟩)); go_ret2
     exact ⟨by rfl, bw⟩
   ·rcases ob H, H with ⟨⟨t127, A39, H⟩, -⟩; obtain ⟨rfl, rfl⟩ := s2 H; go_wp2_with (((with_reducible refine gc 21 ?_); refine gl_ 71 Try.func21 #[.int .i64 (a0.size : Int), .int .i64 1, .int .i64 12] ?_; (with_reducible refine (spec_l01In.calls (a0.size : Int) 1 12 t127 _ A39.out).mono ?_); rintro e w' ⟨rfl, ⟨nd, rfl⟩⟩; refine ⟨_, rfl, ?_⟩)); go_ret2
    exact ⟨by rfl, bw⟩
def spec_SetOk.f (k : Nat) (a0 : ByteArray) : Option (Bool) := (spec_l05Rows.f k a0).bind fun bt136 => (some bt136.2)
theorem spec_SetOk.mono : ∀ a0 k, LeO (spec_SetOk.f k a0) (spec_SetOk.f (k + 1) a0) := by
 intro a0 k; unfold spec_SetOk.f; repeat' with_reducible first | exact spec_l05Rows.mono _ _ | exact LeO.refl _ | refine LeO.bind ?_ (fun _ => ?_)
theorem spec_SetOk.calls (k : Nat) (a0 : ByteArray) (r : Bool) (w : World) (h : spec_SetOk.f k a0 = some r) :
  Calls Try.prog 59 #[.string a0] w fun e w' => e = .returned (.bool r) ∧ Below w.heap.size w w' := by
 have HB := am (Below.refl w.heap.size w); have H : ((spec_l05Rows.f k a0).bind fun bt136 => (some bt136.2)) = some r := h; clear h; replace H := Option.bind_eq_some_iff.mp H; obtain ⟨⟨t136, t137⟩, A20, H⟩ := H; replace H : (some t137) = some r := H; have A2 := am A20; clear A20; obtain rfl := si H; go_enter Try.func59, Try.ntmps59; go_wp2_with (((with_reducible refine gc 70 ?_); refine gl_ 7 Try.func70 #[.string a0] ?_; (with_reducible refine (spec_l05Rows.calls k a0 t136 t137 _ A2.out).mono ?_); rintro e w3 ⟨rfl, hb⟩; refine ⟨_, rfl, ?_⟩; replace HB := am (below_step bw hb); (try clear hb))); go_ret; exact ⟨by rfl, HB.out⟩
def spec_l03In.l0 : Nat → List ByteArray → ByteArray → Int → Option (Bool)
 | 0, _, _, _ => none
 | k + 1, x0, x1, x5 => if x5 < (x0.length : Int) then (if 0 ≤ x5 then (if (rdOf ByteArray.empty x0 x5).toList = x1.toList then (some true) else (spec_l03In.l0 k x0 x1 (wrap64 (x5 + 1)))) else (none)) else (some false)
def spec_l03In.f (k : Nat) (l0 : List ByteArray) (a1 : ByteArray) : Option (Bool) := spec_l03In.l0 k l0 a1 0
theorem spec_l03In.mono_l : ∀ k, (∀ y0 y1 y2, LeO (spec_l03In.l0 k y0 y1 y2) (spec_l03In.l0 (k + 1) y0 y1 y2))
 | 0 => fun _ _ _ r h => by simp [spec_l03In.l0] at h
 | k + 1 => by
  have ih0 := spec_l03In.mono_l k
  ·intro y0 y1 y2; unfold spec_l03In.l0; repeat' with_reducible first | exact ih0 _ _ _ | exact LeO.refl _ | refine LeO.ite ?_ ?_
theorem spec_l03In.mono : ∀ a0 a1 k, LeO (spec_l03In.f k a0 a1) (spec_l03In.f (k + 1) a0 a1) := by
 intro a0 a1 k; have ih0 := spec_l03In.mono_l k; unfold spec_l03In.f; repeat' (with_reducible exact ih0 _ _ _)
theorem spec_l03In.calls (k : Nat) (A0 : Option Addr) (c0 : Nat) (l0 : List ByteArray) (a1 : ByteArray) (r : Bool) (w : World) (hr0 : Kd.C Kd.string w A0 l0.length l0) (hc0 : l0.length ≤ c0) (h : spec_l03In.f k l0 a1 = some r) :
  Calls Try.prog 80 #[.slice A0 l0.length c0, .string a1] w fun e w' => e = .returned (.bool r) ∧ Drawn0 w w' := by
 have HR0 := am hr0; have HC0 := am hc0; clear hr0 hc0; have H : (spec_l03In.l0 k l0 a1 0) = some r := h; clear h; have H' := am H; clear H; go_enter Try.func80, Try.ntmps80; go_wp2; go_loopg [5] k (fun kq v5 w' => ∃ (x5_1 : Int), v5 = .int .i64 x5_1 ∧ Aside0 (spec_l03In.l0 kq l0 a1 x5_1 = some r) ∧ Aside0 (kq ≤ k) ∧ Drawn0 w w')
 case atStart => exact ⟨(0), (by rfl), H', ⟨Nat.le_refl _⟩, by repeat (exact Drawn0.refl _)⟩
 case round =>
  clear H'; obtain ⟨x5_1, rfl, HA, HK1, ⟨m1, rfl⟩⟩ := hrel
  cases gk with
  | zero => exact absurd HA.out (by simp [spec_l03In.l0])
  | succ k1 =>
   have H := HA.out; clear HA; simp only [spec_l03In.l0] at H; rcases cd H, H with ⟨⟨c3b0, H⟩ | ⟨c3b0, H⟩, -⟩
   ·rcases cn H, H with ⟨⟨c4b0, H⟩, -⟩; rcases ce H, H with ⟨⟨-, c5b0, c5b1, H⟩ | ⟨c5, c5b0, c5b1, H⟩, -⟩
    ·obtain rfl := si H; have p218 : 0 ≤ (x5_1 : Int) := oa; have q218 : x5_1 < (l0.length : Int) := oa; obtain ⟨ad218, e218, hx218_0⟩ := Kd.at_string HR0.out x5_1 p218 q218; cases e218; replace p218 := eq_true p218; replace q218 := eq_true q218; go_wp2; go_ret; exact ⟨by rfl, by repeat (first | exact Drawn0.refl _ | apply Drawn0.step)⟩
    ·have H' := am H; clear H; have p218 : 0 ≤ (x5_1 : Int) := oa; have q218 : x5_1 < (l0.length : Int) := oa; obtain ⟨ad218, e218, hx218_0⟩ := Kd.at_string HR0.out x5_1 p218 q218; cases e218; replace p218 := eq_true p218; replace q218 := eq_true q218; go_wp2; go_roundg k1
     case measure => have := HK1.out; omega
     case rel => exact ⟨(wrap64 (x5_1 + 1)), (by rfl), H', ⟨by have := HK1.out; omega⟩, by repeat (first | exact Drawn0.refl _ | apply Drawn0.step)⟩
   ·obtain rfl := si H; go_wp2; go_ret; exact ⟨by rfl, by repeat (first | exact Drawn0.refl _ | apply Drawn0.step)⟩
def spec_l04Kids.j0 : Nat → Int → Bool → Option (Int)
 | 0, _, _ => none
 | k + 1, x3, x4 => if x4 = true then (some 0) else (if x3 = 11 then (some 1) else (some 2))
def spec_l04Kids.f (k : Nat) (a0 : Int) : Option (Int) := if a0 = 1 then (spec_l04Kids.j0 k a0 (a0 == 1)) else (if a0 = 2 then (spec_l04Kids.j0 k a0 (a0 == 2)) else (spec_l04Kids.j0 k a0 (a0 == 3)))
theorem spec_l04Kids.mono_l : ∀ k, (∀ y0 y1, LeO (spec_l04Kids.j0 k y0 y1) (spec_l04Kids.j0 (k + 1) y0 y1))
 | 0 => fun _ _ r h => by simp [spec_l04Kids.j0] at h
 | k + 1 => by
  have ih0 := spec_l04Kids.mono_l k
  ·intro y0 y1; unfold spec_l04Kids.j0; repeat' (with_reducible exact LeO.refl _)
theorem spec_l04Kids.mono : ∀ a0 k, LeO (spec_l04Kids.f k a0) (spec_l04Kids.f (k + 1) a0) := by
 intro a0 k; have ih0 := spec_l04Kids.mono_l k; unfold spec_l04Kids.f; repeat' with_reducible first | exact ih0 _ _ | refine LeO.ite ?_ ?_
theorem spec_l04Kids.calls (k : Nat) (a0 : Int) (r : Int) (w : World) (h : spec_l04Kids.f k a0 = some r) :
  Calls Try.prog 89 #[.int .i64 a0] w fun e w' => e = .returned (.int .i64 r) ∧ Drawn0 w w' := by
 have H := h; unfold spec_l04Kids.f at H; clear h; have HC2 := am H; clear H; go_enter Try.func89, Try.ntmps89; go_upto_if 4 with (fail)
 go_cut [4] (fun v4 wc => ∃ (kq : Nat) (x4_1 : Bool), v4 = .bool x4_1 ∧ Aside0 (spec_l04Kids.j0 kq a0 x4_1 = some r) ∧ Aside0 (kq ≤ k) ∧ Drawn0 w wc)
 case first =>
  have H := HC2.out; clear HC2; rcases ce H, H with ⟨⟨-, c3b0, c3b1, H⟩ | ⟨c3, c3b0, c3b1, H⟩, -⟩
  ·((rw [c3b0])); have H' := am H; clear H; go_wp2; go_meet
   case rel => exact ⟨_, ((a0 == 1)), (by (simp [*]; done)), H', ⟨by omega⟩, by repeat (exact Drawn0.refl _)⟩
  ·((rw [c3b0])); rcases ce H, H with ⟨⟨-, c4b0, c4b1, H⟩ | ⟨c4, c4b0, c4b1, H⟩, -⟩
   ·have H' := am H; clear H; go_wp2; go_meet
    case rel => exact ⟨_, ((a0 == 2)), (by (simp [*]; done)), H', ⟨by omega⟩, by repeat (exact Drawn0.refl _)⟩
   ·have H' := am H; clear H; go_wp2; go_meet
    case rel => exact ⟨_, ((a0 == 3)), (by rfl), H', ⟨by omega⟩, by repeat (exact Drawn0.refl _)⟩
 case rest =>
  clear HC2; obtain ⟨kq, x4_1, rfl, HA, HJ1, ⟨mc1, rfl⟩⟩ := hcut
  cases kq with
  | zero => exact absurd HA.out (by simp [spec_l04Kids.j0])
  | succ kj1 =>
   have H := HA.out; clear HA; simp only [spec_l04Kids.j0] at H; rcases cb H, H with ⟨⟨rfl, H⟩ | ⟨rfl, H⟩, -⟩
   ·obtain rfl := si H; go_wp2; go_ret; exact ⟨by rfl, by repeat (first | exact Drawn0.refl _ | apply Drawn0.step)⟩
   ·rcases ce H, H with ⟨⟨-, c6b0, c6b1, H⟩ | ⟨c6, c6b0, c6b1, H⟩, -⟩
    ·obtain rfl := si H; go_wp2; go_ret; exact ⟨by rfl, by repeat (first | exact Drawn0.refl _ | apply Drawn0.step)⟩
    ·obtain rfl := si H; go_wp2; go_ret; exact ⟨by rfl, by repeat (first | exact Drawn0.refl _ | apply Drawn0.step)⟩
end Go.Proofs.Ythdoibaeamiepaa.PFnRuleNames
