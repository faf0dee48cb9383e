/- What the arguments of FnExactCountForest read as, and the one statement on plain lists that is left. No condition. Written by a program of this session. -/
import Derived.Test.YtlkbdoejeomlmaaPFnExactCountForestx8
import Derived.Test.YtlkbdoejeomlmaaRd
namespace Go.Proofs.Ytlkbdoejeomlmaa.SFnExactCountForest
open Go.RowKit Go.Proofs.Ytlkbdoejeomlmaa.PFnExactCountForest Go.Proofs.YtlkbdoejeomlmaaRd Go.Proofs.YtlkbdoejeomlmaaW.PrintWords Go.Proofs.YtlkbdoejeomlmaaW.PrintLast
set_option linter.unusedVariables false
set_option maxRecDepth 100000
theorem rd3 : Rd Try.prog 3 (Kd.int .i64) (fun x => (Lit.int .i64 x).wf = true) := Rd.int Try.underlying3 (by kernel_rfl)
theorem rd30 : Rd Try.prog 30 (Kd.slice 3 (Kd.int .i64)) (fun xs => xs.length ≤ 9223372036854775807 ∧ ∀ x ∈ xs, (fun x => (Lit.int .i64 x).wf = true) x) := Rd.slice Try.underlying30 (by kernel_rfl) rd3
def wf255 (x : S255) : Prop := (fun x => (Lit.int .i64 x).wf = true) x.f0 ∧ (fun xs => xs.length ≤ 9223372036854775807 ∧ ∀ x ∈ xs, (fun x => (Lit.int .i64 x).wf = true) x) x.f1
theorem rd255 : Rd Try.prog 255 k255 wf255 := (Rd.struct (fun x => ⟨x.1, x.2⟩) (fun _ => rfl) Try.underlying255 (by kernel_rfl) (RdF.cons rfl rd3 (RdF.one rfl rd30))).imp (fun _ h => h)
theorem rd197 : Rd Try.prog 197 (Kd.slice 255 k255) (fun xs => xs.length ≤ 9223372036854775807 ∧ ∀ x ∈ xs, (wf255) x) := Rd.slice Try.underlying197 (by kernel_rfl) rd255
def wf199 (x : S199) : Prop := (fun x => (Lit.int .i64 x).wf = true) x.f0 ∧ (fun xs => xs.length ≤ 9223372036854775807 ∧ ∀ x ∈ xs, (fun x => (Lit.int .i64 x).wf = true) x) x.f1 ∧ (fun x => (Lit.int .i64 x).wf = true) x.f2 ∧ (fun x => (Lit.int .i64 x).wf = true) x.f3 ∧ (fun xs => xs.length ≤ 9223372036854775807 ∧ ∀ x ∈ xs, (wf255) x) x.f4
theorem rd199 : Rd Try.prog 199 k199 wf199 := (Rd.struct (fun x => ⟨x.1, x.2.1, x.2.2.1, x.2.2.2.1, x.2.2.2.2⟩) (fun _ => rfl) Try.underlying199 (by kernel_rfl) (RdF.cons rfl rd3 (RdF.cons rfl rd30 (RdF.cons rfl rd3 (RdF.cons rfl rd3 (RdF.one rfl rd197)))))).imp (fun _ h => h)
theorem rd34 : Rd Try.prog 34 (Kd.slice 199 k199) (fun xs => xs.length ≤ 9223372036854775807 ∧ ∀ x ∈ xs, (wf199) x) := Rd.slice Try.underlying34 (by kernel_rfl) rd199
theorem rdp0 : Rd Try.prog 36 (Kd.slice 199 k199) ((fun xs => xs.length ≤ 9223372036854775807 ∧ ∀ x ∈ xs, (wf199) x)) := Rd.fields Try.underlying36 (by kernel_rfl) (RdF.one rfl rd34)
/-- The one statement that is left. -/
def Pure : Prop := ∀ (l0_0 : List (S199)) (a1 : Int), (fun xs => xs.length ≤ 9223372036854775807 ∧ ∀ x ∈ xs, (wf199) x) l0_0 → (fun x => (Lit.int .i64 x).wf = true) a1 → ∃ k, laws_FnExactCountForest.f k l0_0 a1 = some true
end Go.Proofs.Ytlkbdoejeomlmaa.SFnExactCountForest
