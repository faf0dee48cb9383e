/- What the arguments of FnExactCallsOf read as, and the one statement on plain lists that is left. No condition. Written by a program of this session. -/
import Derived.Test.YthnokfmpogekoaaPFnExactCallsOfx12
import Derived.Test.YthnokfmpogekoaaRd
namespace Go.Proofs.Ythnokfmpogekoaa.SFnExactCallsOf
open Go.RowKit Go.Proofs.Ythnokfmpogekoaa.PFnExactCallsOf Go.Proofs.YthnokfmpogekoaaRd Go.Proofs.YthnokfmpogekoaaW.PrintWords Go.Proofs.YthnokfmpogekoaaW.PrintLast
set_option linter.unusedVariables false
set_option maxRecDepth 100000
theorem rd9 : Rd Try.prog 9 Kd.string (fun x => x.size ≤ 9223372036854775807) := Rd.string Try.underlying9 (by kernel_rfl)
theorem rd26 : Rd Try.prog 26 (Kd.slice 9 Kd.string) (fun xs => xs.length ≤ 9223372036854775807 ∧ ∀ x ∈ xs, (fun x => x.size ≤ 9223372036854775807) x) := Rd.slice Try.underlying26 (by kernel_rfl) rd9
theorem rd3 : Rd Try.prog 3 (Kd.int .i64) (fun x => (Lit.int .i64 x).wf = true) := Rd.int Try.underlying3 (by kernel_rfl)
theorem rd113 : Rd Try.prog 113 (Kd.slice 3 (Kd.int .i64)) (fun xs => xs.length ≤ 9223372036854775807 ∧ ∀ x ∈ xs, (fun x => (Lit.int .i64 x).wf = true) x) := Rd.slice Try.underlying113 (by kernel_rfl) rd3
def wf130 (x : S130) : Prop := (fun x => (Lit.int .i64 x).wf = true) x.f0 ∧ (fun x => (Lit.int .i64 x).wf = true) x.f1 ∧ (fun x => x.size ≤ 9223372036854775807) x.f2 ∧ (fun xs => xs.length ≤ 9223372036854775807 ∧ ∀ x ∈ xs, (fun x => (Lit.int .i64 x).wf = true) x) x.f3
theorem rd130 : Rd Try.prog 130 k130 wf130 := (Rd.struct (fun x => ⟨x.1, x.2.1, x.2.2.1, x.2.2.2⟩) (fun _ => rfl) Try.underlying130 (by kernel_rfl) (RdF.cons rfl rd3 (RdF.cons rfl rd3 (RdF.cons rfl rd9 (RdF.one rfl rd113))))).imp (fun _ h => h)
theorem rd121 : Rd Try.prog 121 (Kd.slice 130 k130) (fun xs => xs.length ≤ 9223372036854775807 ∧ ∀ x ∈ xs, (wf130) x) := Rd.slice Try.underlying121 (by kernel_rfl) rd130
def wf123 (x : S123) : Prop := (fun xs => xs.length ≤ 9223372036854775807 ∧ ∀ x ∈ xs, (wf130) x) x.f0
theorem rd123 : Rd Try.prog 123 k123 wf123 := (Rd.struct (fun x => ⟨x⟩) (fun _ => rfl) Try.underlying123 (by kernel_rfl) (RdF.one rfl rd121)).imp (fun _ h => h)
theorem rd108 : Rd Try.prog 108 (Kd.slice 123 k123) (fun xs => xs.length ≤ 9223372036854775807 ∧ ∀ x ∈ xs, (wf123) x) := Rd.slice Try.underlying108 (by kernel_rfl) rd123
def wf110 (x : S110) : Prop := (fun x => (Lit.int .i64 x).wf = true) x.f0 ∧ (fun x => x.size ≤ 9223372036854775807) x.f1 ∧ (fun xs => xs.length ≤ 9223372036854775807 ∧ ∀ x ∈ xs, (wf123) x) x.f2 ∧ (fun x => x.size ≤ 9223372036854775807) x.f3
theorem rd110 : Rd Try.prog 110 k110 wf110 := (Rd.struct (fun x => ⟨x.1, x.2.1, x.2.2.1, x.2.2.2⟩) (fun _ => rfl) Try.underlying110 (by kernel_rfl) (RdF.cons rfl rd3 (RdF.cons rfl rd9 (RdF.cons rfl rd108 (RdF.one rfl rd9))))).imp (fun _ h => h)
theorem rd84 : Rd Try.prog 84 (Kd.slice 110 k110) (fun xs => xs.length ≤ 9223372036854775807 ∧ ∀ x ∈ xs, (wf110) x) := Rd.slice Try.underlying84 (by kernel_rfl) rd110
def wf86 (x : S86) : Prop := (fun xs => xs.length ≤ 9223372036854775807 ∧ ∀ x ∈ xs, (wf110) x) x.f0
theorem rd86 : Rd Try.prog 86 k86 wf86 := (Rd.struct (fun x => ⟨x⟩) (fun _ => rfl) Try.underlying86 (by kernel_rfl) (RdF.one rfl rd84)).imp (fun _ h => h)
theorem rd56 : Rd Try.prog 56 (Kd.slice 86 k86) (fun xs => xs.length ≤ 9223372036854775807 ∧ ∀ x ∈ xs, (wf86) x) := Rd.slice Try.underlying56 (by kernel_rfl) rd86
def wf58 (x : S58) : Prop := (fun x => x.size ≤ 9223372036854775807) x.f0 ∧ (fun xs => xs.length ≤ 9223372036854775807 ∧ ∀ x ∈ xs, (fun x => x.size ≤ 9223372036854775807) x) x.f1 ∧ (fun xs => xs.length ≤ 9223372036854775807 ∧ ∀ x ∈ xs, (wf86) x) x.f2
theorem rd58 : Rd Try.prog 58 k58 wf58 := (Rd.struct (fun x => ⟨x.1, x.2.1, x.2.2⟩) (fun _ => rfl) Try.underlying58 (by kernel_rfl) (RdF.cons rfl rd9 (RdF.cons rfl rd26 (RdF.one rfl rd56)))).imp (fun _ h => h)
theorem rd22 : Rd Try.prog 22 (Kd.slice 58 k58) (fun xs => xs.length ≤ 9223372036854775807 ∧ ∀ x ∈ xs, (wf58) x) := Rd.slice Try.underlying22 (by kernel_rfl) rd58
theorem rdp0 : Rd Try.prog 24 (Kd.slice 58 k58) ((fun xs => xs.length ≤ 9223372036854775807 ∧ ∀ x ∈ xs, (wf58) x)) := (Rd.fields Try.underlying24 (by kernel_rfl) (RdF.one rfl rd22)).imp (fun _ h => h)
/-- The one statement that is left. -/
def Pure : Prop := ∀ (l0_0 : List (S58)) (a1 : Int), (fun xs => xs.length ≤ 9223372036854775807 ∧ ∀ x ∈ xs, (wf58) x) l0_0 → (fun x => (Lit.int .i64 x).wf = true) a1 → ∃ k, laws_FnExactCallsOf.f k l0_0 a1 = some true
end Go.Proofs.Ythnokfmpogekoaa.SFnExactCallsOf
