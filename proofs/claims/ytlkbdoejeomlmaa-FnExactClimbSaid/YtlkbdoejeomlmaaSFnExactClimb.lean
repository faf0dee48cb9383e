/- What the arguments of FnExactClimb read as, and the one statement on plain lists that is left. No condition. Written by a program of this session. -/
import Derived.Test.YtlkbdoejeomlmaaPFnExactClimbx6
import Derived.Test.YtlkbdoejeomlmaaRd
namespace Go.Proofs.Ytlkbdoejeomlmaa.SFnExactClimb
open Go.RowKit Go.Proofs.Ytlkbdoejeomlmaa.PFnExactClimb Go.Proofs.YtlkbdoejeomlmaaRd Go.Proofs.YtlkbdoejeomlmaaW.PrintWords Go.Proofs.YtlkbdoejeomlmaaW.PrintLast
set_option linter.unusedVariables false
set_option maxRecDepth 100000
theorem rd9 : Rd Try.prog 9 Kd.string (fun x => x.size ≤ 9223372036854775807) := Rd.string Try.underlying9 (by kernel_rfl)
theorem rd3 : Rd Try.prog 3 (Kd.int .i64) (fun x => (Lit.int .i64 x).wf = true) := Rd.int Try.underlying3 (by kernel_rfl)
theorem rd4 : Rd Try.prog 4 Kd.bool (fun _ => True) := Rd.bool Try.underlying4 (by kernel_rfl)
def wf134 (x : S134) : Prop := (fun x => x.size ≤ 9223372036854775807) x.f0 ∧ (fun x => (Lit.int .i64 x).wf = true) x.f1 ∧ (fun _ => True) x.f2
theorem rd134 : Rd Try.prog 134 k134 wf134 := (Rd.struct (fun x => ⟨x.1, x.2.1, x.2.2⟩) (fun _ => rfl) Try.underlying134 (by kernel_rfl) (RdF.cons rfl rd9 (RdF.cons rfl rd3 (RdF.one rfl rd4)))).imp (fun _ h => h)
theorem rd59 : Rd Try.prog 59 (Kd.slice 134 k134) (fun xs => xs.length ≤ 9223372036854775807 ∧ ∀ x ∈ xs, (wf134) x) := Rd.slice Try.underlying59 (by kernel_rfl) rd134
/-- The one statement that is left. -/
def Pure : Prop := ∀ (l0 : List (S134)) (a1 : ByteArray), (fun xs => xs.length ≤ 9223372036854775807 ∧ ∀ x ∈ xs, (wf134) x) l0 → (fun x => x.size ≤ 9223372036854775807) a1 → ∃ k, laws_FnExactClimb.f k l0 a1 = some true
end Go.Proofs.Ytlkbdoejeomlmaa.SFnExactClimb
