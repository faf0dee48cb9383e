/- What the arguments of FnExactSameGrammar read as, and the one statement on plain lists that is left. No condition. Written by a program of this session. -/
import Derived.Test.YtlkbdoejeomlmaaPFnExactSameGrammarx13
import Derived.Test.YtlkbdoejeomlmaaRd
namespace Go.Proofs.Ytlkbdoejeomlmaa.SFnExactSameGrammar
open Go.RowKit Go.Proofs.Ytlkbdoejeomlmaa.PFnExactSameGrammar Go.Proofs.YtlkbdoejeomlmaaRd Go.Proofs.YtlkbdoejeomlmaaW.PrintWords Go.Proofs.YtlkbdoejeomlmaaW.PrintLast
set_option linter.unusedVariables false
set_option maxRecDepth 100000
theorem rd9 : Rd Try.prog 9 Kd.string (fun x => x.size ≤ 9223372036854775807) := Rd.string Try.underlying9 (by kernel_rfl)
theorem rd106 : Rd Try.prog 106 (Kd.slice 9 Kd.string) (fun xs => xs.length ≤ 9223372036854775807 ∧ ∀ x ∈ xs, (fun x => x.size ≤ 9223372036854775807) x) := Rd.slice Try.underlying106 (by kernel_rfl) rd9
theorem rd3 : Rd Try.prog 3 (Kd.int .i64) (fun x => (Lit.int .i64 x).wf = true) := Rd.int Try.underlying3 (by kernel_rfl)
theorem rd30 : Rd Try.prog 30 (Kd.slice 3 (Kd.int .i64)) (fun xs => xs.length ≤ 9223372036854775807 ∧ ∀ x ∈ xs, (fun x => (Lit.int .i64 x).wf = true) x) := Rd.slice Try.underlying30 (by kernel_rfl) rd3
def wf204 (x : S204) : Prop := (fun x => (Lit.int .i64 x).wf = true) x.f0 ∧ (fun x => (Lit.int .i64 x).wf = true) x.f1 ∧ (fun x => x.size ≤ 9223372036854775807) x.f2 ∧ (fun xs => xs.length ≤ 9223372036854775807 ∧ ∀ x ∈ xs, (fun x => (Lit.int .i64 x).wf = true) x) x.f3
theorem rd204 : Rd Try.prog 204 k204 wf204 := (Rd.struct (fun x => ⟨x.1, x.2.1, x.2.2.1, x.2.2.2⟩) (fun _ => rfl) Try.underlying204 (by kernel_rfl) (RdF.cons rfl rd3 (RdF.cons rfl rd3 (RdF.cons rfl rd9 (RdF.one rfl rd30))))).imp (fun _ h => h)
theorem rd45 : Rd Try.prog 45 (Kd.slice 204 k204) (fun xs => xs.length ≤ 9223372036854775807 ∧ ∀ x ∈ xs, (wf204) x) := Rd.slice Try.underlying45 (by kernel_rfl) rd204
def wf47 (x : S47) : Prop := (fun xs => xs.length ≤ 9223372036854775807 ∧ ∀ x ∈ xs, (wf204) x) x.f0
theorem rd47 : Rd Try.prog 47 k47 wf47 := (Rd.struct (fun x => ⟨x⟩) (fun _ => rfl) Try.underlying47 (by kernel_rfl) (RdF.one rfl rd45)).imp (fun _ h => h)
theorem rd214 : Rd Try.prog 214 (Kd.slice 47 k47) (fun xs => xs.length ≤ 9223372036854775807 ∧ ∀ x ∈ xs, (wf47) x) := Rd.slice Try.underlying214 (by kernel_rfl) rd47
def wf277 (x : S277) : Prop := (fun x => (Lit.int .i64 x).wf = true) x.f0 ∧ (fun x => x.size ≤ 9223372036854775807) x.f1 ∧ (fun xs => xs.length ≤ 9223372036854775807 ∧ ∀ x ∈ xs, (wf47) x) x.f2 ∧ (fun x => x.size ≤ 9223372036854775807) x.f3
theorem rd277 : Rd Try.prog 277 k277 wf277 := (Rd.struct (fun x => ⟨x.1, x.2.1, x.2.2.1, x.2.2.2⟩) (fun _ => rfl) Try.underlying277 (by kernel_rfl) (RdF.cons rfl rd3 (RdF.cons rfl rd9 (RdF.cons rfl rd214 (RdF.one rfl rd9))))).imp (fun _ h => h)
theorem rd259 : Rd Try.prog 259 (Kd.slice 277 k277) (fun xs => xs.length ≤ 9223372036854775807 ∧ ∀ x ∈ xs, (wf277) x) := Rd.slice Try.underlying259 (by kernel_rfl) rd277
def wf261 (x : S261) : Prop := (fun xs => xs.length ≤ 9223372036854775807 ∧ ∀ x ∈ xs, (wf277) x) x.f0
theorem rd261 : Rd Try.prog 261 k261 wf261 := (Rd.struct (fun x => ⟨x⟩) (fun _ => rfl) Try.underlying261 (by kernel_rfl) (RdF.one rfl rd259)).imp (fun _ h => h)
theorem rd223 : Rd Try.prog 223 (Kd.slice 261 k261) (fun xs => xs.length ≤ 9223372036854775807 ∧ ∀ x ∈ xs, (wf261) x) := Rd.slice Try.underlying223 (by kernel_rfl) rd261
def wf225 (x : S225) : Prop := (fun x => x.size ≤ 9223372036854775807) x.f0 ∧ (fun xs => xs.length ≤ 9223372036854775807 ∧ ∀ x ∈ xs, (fun x => x.size ≤ 9223372036854775807) x) x.f1 ∧ (fun xs => xs.length ≤ 9223372036854775807 ∧ ∀ x ∈ xs, (wf261) x) x.f2
theorem rd225 : Rd Try.prog 225 k225 wf225 := (Rd.struct (fun x => ⟨x.1, x.2.1, x.2.2⟩) (fun _ => rfl) Try.underlying225 (by kernel_rfl) (RdF.cons rfl rd9 (RdF.cons rfl rd106 (RdF.one rfl rd223)))).imp (fun _ h => h)
theorem rd76 : Rd Try.prog 76 (Kd.slice 225 k225) (fun xs => xs.length ≤ 9223372036854775807 ∧ ∀ x ∈ xs, (wf225) x) := Rd.slice Try.underlying76 (by kernel_rfl) rd225
theorem rdp0 : Rd Try.prog 78 (Kd.slice 225 k225) ((fun xs => xs.length ≤ 9223372036854775807 ∧ ∀ x ∈ xs, (wf225) x)) := (Rd.fields Try.underlying78 (by kernel_rfl) (RdF.one rfl rd76)).imp (fun _ h => h)
theorem rdp1 : Rd Try.prog 78 (Kd.slice 225 k225) ((fun xs => xs.length ≤ 9223372036854775807 ∧ ∀ x ∈ xs, (wf225) x)) := (Rd.fields Try.underlying78 (by kernel_rfl) (RdF.one rfl rd76)).imp (fun _ h => h)
/-- The one statement that is left. -/
def Pure : Prop := ∀ (l0_0 : List (S225)) (l1_0 : List (S225)), (fun xs => xs.length ≤ 9223372036854775807 ∧ ∀ x ∈ xs, (wf225) x) l0_0 → (fun xs => xs.length ≤ 9223372036854775807 ∧ ∀ x ∈ xs, (wf225) x) l1_0 → ∃ k, laws_FnExactSameGrammar.f k l0_0 l1_0 = some true
end Go.Proofs.Ytlkbdoejeomlmaa.SFnExactSameGrammar
