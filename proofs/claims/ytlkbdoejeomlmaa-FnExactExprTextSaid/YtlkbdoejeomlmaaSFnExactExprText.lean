/- What the arguments of FnExactExprText read as, and the one statement on plain lists that is left. No condition. Written by a program of this session. -/
import Derived.Test.YtlkbdoejeomlmaaPFnExactExprTextx9
import Derived.Test.YtlkbdoejeomlmaaRd
namespace Go.Proofs.Ytlkbdoejeomlmaa.SFnExactExprText
open Go.RowKit Go.Proofs.Ytlkbdoejeomlmaa.PFnExactExprText Go.Proofs.YtlkbdoejeomlmaaRd Go.Proofs.YtlkbdoejeomlmaaW.PrintWords Go.Proofs.YtlkbdoejeomlmaaW.PrintLast
set_option linter.unusedVariables false
set_option maxRecDepth 100000
theorem rd3 : Rd Try.prog 3 (Kd.int .i64) (fun x => (Lit.int .i64 x).wf = true) := Rd.int Try.underlying3 (by kernel_rfl)
theorem rd9 : Rd Try.prog 9 Kd.string (fun x => x.size ≤ 9223372036854775807) := Rd.string Try.underlying9 (by kernel_rfl)
theorem rd30 : Rd Try.prog 30 (Kd.slice 3 (Kd.int .i64)) (fun xs => xs.length ≤ 9223372036854775807 ∧ ∀ x ∈ xs, (fun x => (Lit.int .i64 x).wf = true) x) := Rd.slice Try.underlying30 (by kernel_rfl) rd3
def wf204 (x : S204) : Prop := (fun x => (Lit.int .i64 x).wf = true) x.f0 ∧ (fun x => (Lit.int .i64 x).wf = true) x.f1 ∧ (fun x => x.size ≤ 9223372036854775807) x.f2 ∧ (fun xs => xs.length ≤ 9223372036854775807 ∧ ∀ x ∈ xs, (fun x => (Lit.int .i64 x).wf = true) x) x.f3
theorem rd204 : Rd Try.prog 204 k204 wf204 := (Rd.struct (fun x => ⟨x.1, x.2.1, x.2.2.1, x.2.2.2⟩) (fun _ => rfl) Try.underlying204 (by kernel_rfl) (RdF.cons rfl rd3 (RdF.cons rfl rd3 (RdF.cons rfl rd9 (RdF.one rfl rd30))))).imp (fun _ h => h)
theorem rd45 : Rd Try.prog 45 (Kd.slice 204 k204) (fun xs => xs.length ≤ 9223372036854775807 ∧ ∀ x ∈ xs, (wf204) x) := Rd.slice Try.underlying45 (by kernel_rfl) rd204
theorem rdp0 : Rd Try.prog 47 (Kd.slice 204 k204) ((fun xs => xs.length ≤ 9223372036854775807 ∧ ∀ x ∈ xs, (wf204) x)) := Rd.fields Try.underlying47 (by kernel_rfl) (RdF.one rfl rd45)
/-- The one statement that is left. -/
def Pure : Prop := ∀ (l0_0 : List (S204)), (fun xs => xs.length ≤ 9223372036854775807 ∧ ∀ x ∈ xs, (wf204) x) l0_0 → ∃ k, laws_FnExactExprText.f k l0_0 = some true
end Go.Proofs.Ytlkbdoejeomlmaa.SFnExactExprText
