/- What the arguments of FnExactSameSurface read as, and the one statement on plain lists that is left. No condition. Written by a program of this session. -/
import Derived.Test.YtlkbdoejeomlmaaPFnExactSameSurfacex12
import Derived.Test.YtlkbdoejeomlmaaRd
namespace Go.Proofs.Ytlkbdoejeomlmaa.SFnExactSameSurface
open Go.RowKit Go.Proofs.Ytlkbdoejeomlmaa.PFnExactSameSurface Go.Proofs.YtlkbdoejeomlmaaRd Go.Proofs.YtlkbdoejeomlmaaW.PrintWords Go.Proofs.YtlkbdoejeomlmaaW.PrintLast
set_option linter.unusedVariables false
set_option maxRecDepth 100000
theorem rd3 : Rd Try.prog 3 (Kd.int .i64) (fun x => (Lit.int .i64 x).wf = true) := Rd.int Try.underlying3 (by kernel_rfl)
theorem rd9 : Rd Try.prog 9 Kd.string (fun x => x.size ≤ 9223372036854775807) := Rd.string Try.underlying9 (by kernel_rfl)
theorem rd30 : Rd Try.prog 30 (Kd.slice 3 (Kd.int .i64)) (fun xs => xs.length ≤ 9223372036854775807 ∧ ∀ x ∈ xs, (fun x => (Lit.int .i64 x).wf = true) x) := Rd.slice Try.underlying30 (by kernel_rfl) rd3
def wf204 (x : S204) : Prop := (fun x => (Lit.int .i64 x).wf = true) x.f0 ∧ (fun x => (Lit.int .i64 x).wf = true) x.f1 ∧ (fun x => x.size ≤ 9223372036854775807) x.f2 ∧ (fun xs => xs.length ≤ 9223372036854775807 ∧ ∀ x ∈ xs, (fun x => (Lit.int .i64 x).wf = true) x) x.f3
theorem rd204 : Rd Try.prog 204 k204 wf204 := (Rd.struct (fun x => ⟨x.1, x.2.1, x.2.2.1, x.2.2.2⟩) (fun _ => rfl) Try.underlying204 (by kernel_rfl) (RdF.cons rfl rd3 (RdF.cons rfl rd3 (RdF.cons rfl rd9 (RdF.one rfl rd30))))).imp (fun _ h => h)
theorem rd45 : Rd Try.prog 45 (Kd.slice 204 k204) (fun xs => xs.length ≤ 9223372036854775807 ∧ ∀ x ∈ xs, (wf204) x) := Rd.slice Try.underlying45 (by kernel_rfl) rd204
def wf47 (x : S47) : Prop := (fun xs => xs.length ≤ 9223372036854775807 ∧ ∀ x ∈ xs, (wf204) x) x.f0
theorem rd47 : Rd Try.prog 47 k47 wf47 := (Rd.struct (fun x => ⟨x⟩) (fun _ => rfl) Try.underlying47 (by kernel_rfl) (RdF.one rfl rd45)).imp (fun _ h => h)
theorem rd214 : Rd Try.prog 214 (Kd.slice 47 k47) (fun xs => xs.length ≤ 9223372036854775807 ∧ ∀ x ∈ xs, (wf47) x) := Rd.slice Try.underlying214 (by kernel_rfl) rd47
def wf216 (x : S216) : Prop := (fun x => (Lit.int .i64 x).wf = true) x.f0 ∧ (fun x => x.size ≤ 9223372036854775807) x.f1 ∧ (fun xs => xs.length ≤ 9223372036854775807 ∧ ∀ x ∈ xs, (wf47) x) x.f2 ∧ (fun x => x.size ≤ 9223372036854775807) x.f3 ∧ (fun xs => xs.length ≤ 9223372036854775807 ∧ ∀ x ∈ xs, (fun x => (Lit.int .i64 x).wf = true) x) x.f4
theorem rd216 : Rd Try.prog 216 k216 wf216 := (Rd.struct (fun x => ⟨x.1, x.2.1, x.2.2.1, x.2.2.2.1, x.2.2.2.2⟩) (fun _ => rfl) Try.underlying216 (by kernel_rfl) (RdF.cons rfl rd3 (RdF.cons rfl rd9 (RdF.cons rfl rd214 (RdF.cons rfl rd9 (RdF.one rfl rd30)))))).imp (fun _ h => h)
theorem rd64 : Rd Try.prog 64 (Kd.slice 216 k216) (fun xs => xs.length ≤ 9223372036854775807 ∧ ∀ x ∈ xs, (wf216) x) := Rd.slice Try.underlying64 (by kernel_rfl) rd216
theorem rd106 : Rd Try.prog 106 (Kd.slice 9 Kd.string) (fun xs => xs.length ≤ 9223372036854775807 ∧ ∀ x ∈ xs, (fun x => x.size ≤ 9223372036854775807) x) := Rd.slice Try.underlying106 (by kernel_rfl) rd9
def wf218 (x : S218) : Prop := (fun x => x.size ≤ 9223372036854775807) x.f0 ∧ (fun xs => xs.length ≤ 9223372036854775807 ∧ ∀ x ∈ xs, (fun x => x.size ≤ 9223372036854775807) x) x.f1 ∧ (fun x => (Lit.int .i64 x).wf = true) x.f2
theorem rd218 : Rd Try.prog 218 k218 wf218 := (Rd.struct (fun x => ⟨x.1, x.2.1, x.2.2⟩) (fun _ => rfl) Try.underlying218 (by kernel_rfl) (RdF.cons rfl rd9 (RdF.cons rfl rd106 (RdF.one rfl rd3)))).imp (fun _ h => h)
theorem rd65 : Rd Try.prog 65 (Kd.slice 218 k218) (fun xs => xs.length ≤ 9223372036854775807 ∧ ∀ x ∈ xs, (wf218) x) := Rd.slice Try.underlying65 (by kernel_rfl) rd218
theorem rdp0 : Rd Try.prog 67 (Kd.pair (Kd.slice 216 k216) (Kd.slice 218 k218)) ((fun x => (fun xs => xs.length ≤ 9223372036854775807 ∧ ∀ x ∈ xs, (wf216) x) x.1 ∧ (fun xs => xs.length ≤ 9223372036854775807 ∧ ∀ x ∈ xs, (wf218) x) x.2)) := (Rd.fields Try.underlying67 (by kernel_rfl) (RdF.cons rfl rd64 (RdF.one rfl rd65))).imp (fun _ h => h)
theorem rdp1 : Rd Try.prog 67 (Kd.pair (Kd.slice 216 k216) (Kd.slice 218 k218)) ((fun x => (fun xs => xs.length ≤ 9223372036854775807 ∧ ∀ x ∈ xs, (wf216) x) x.1 ∧ (fun xs => xs.length ≤ 9223372036854775807 ∧ ∀ x ∈ xs, (wf218) x) x.2)) := (Rd.fields Try.underlying67 (by kernel_rfl) (RdF.cons rfl rd64 (RdF.one rfl rd65))).imp (fun _ h => h)
/-- The one statement that is left. -/
def Pure : Prop := ∀ (l0_0 : List (S216)) (l0_1 : List (S218)) (l1_0 : List (S216)) (l1_1 : List (S218)), (fun xs => xs.length ≤ 9223372036854775807 ∧ ∀ x ∈ xs, (wf216) x) l0_0 → (fun xs => xs.length ≤ 9223372036854775807 ∧ ∀ x ∈ xs, (wf218) x) l0_1 → (fun xs => xs.length ≤ 9223372036854775807 ∧ ∀ x ∈ xs, (wf216) x) l1_0 → (fun xs => xs.length ≤ 9223372036854775807 ∧ ∀ x ∈ xs, (wf218) x) l1_1 → ∃ k, laws_FnExactSameSurface.f k l0_0 l0_1 l1_0 l1_1 = some true
end Go.Proofs.Ytlkbdoejeomlmaa.SFnExactSameSurface
