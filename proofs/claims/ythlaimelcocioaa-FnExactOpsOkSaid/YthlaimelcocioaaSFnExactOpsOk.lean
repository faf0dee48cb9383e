/- What the arguments of FnExactOpsOk read as, and the one statement on plain lists that is left. No condition. Written by a program of this session. -/
import Derived.Test.YthlaimelcocioaaPFnExactOpsOkx3
import Derived.Test.YthlaimelcocioaaRd
namespace Go.Proofs.Ythlaimelcocioaa.SFnExactOpsOk
open Go.RowKit Go.Proofs.Ythlaimelcocioaa.PFnExactOpsOk Go.Proofs.YthlaimelcocioaaRd Go.Proofs.YthlaimelcocioaaW.PrintWords Go.Proofs.YthlaimelcocioaaW.PrintLast
set_option linter.unusedVariables false
set_option maxRecDepth 100000
theorem rd9 : Rd Try.prog 9 Kd.string (fun x => x.size ≤ 9223372036854775807) := Rd.string Try.underlying9 (by kernel_rfl)
theorem rd3 : Rd Try.prog 3 (Kd.int .i64) (fun x => (Lit.int .i64 x).wf = true) := Rd.int Try.underlying3 (by kernel_rfl)
theorem rd4 : Rd Try.prog 4 Kd.bool (fun _ => True) := Rd.bool Try.underlying4 (by kernel_rfl)
def wf53 (x : S53) : Prop := (fun x => x.size ≤ 9223372036854775807) x.f0 ∧ (fun x => (Lit.int .i64 x).wf = true) x.f1 ∧ (fun _ => True) x.f2
theorem rd53 : Rd Try.prog 53 k53 wf53 := (Rd.struct (fun x => ⟨x.1, x.2.1, x.2.2⟩) (fun _ => rfl) Try.underlying53 (by kernel_rfl) (RdF.cons rfl rd9 (RdF.cons rfl rd3 (RdF.one rfl rd4)))).imp (fun _ h => h)
theorem rd31 : Rd Try.prog 31 (Kd.slice 53 k53) (fun xs => xs.length ≤ 9223372036854775807 ∧ ∀ x ∈ xs, (wf53) x) := Rd.slice Try.underlying31 (by kernel_rfl) rd53
/-- The one statement that is left. -/
def Pure : Prop := ∀ (l0 : List (S53)), (fun xs => xs.length ≤ 9223372036854775807 ∧ ∀ x ∈ xs, (wf53) x) l0 → ∃ k, laws_FnExactOpsOk.f k l0 = some true
end Go.Proofs.Ythlaimelcocioaa.SFnExactOpsOk
