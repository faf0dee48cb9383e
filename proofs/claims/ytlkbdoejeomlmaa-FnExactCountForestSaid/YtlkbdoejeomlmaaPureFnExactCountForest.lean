/- FnExactCountForest: for every forest and number the program's function and the reference's come to the same, and the forest is left as it was. No condition. -/
import Derived.Test.YtlkbdoejeomlmaaMFnExactCountForest
namespace Go.Proofs.Ytlkbdoejeomlmaa.Pure
open Go.RowKit Go.Proofs.Ytlkbdoejeomlmaa.PFnExactCountForest Go.Proofs.Ytlkbdoejeomlmaa.SFnExactCountForest Go.Proofs.Ytlkbdoejeomlmaa.EFnExactCountForest Go.Proofs.Ytlkbdoejeomlmaa.MFnExactCountForest Go.Proofs.YtlkbdoejeomlmaaPl Go.Proofs.YtlkbdoejeomlmaaW.PrintWords Go.Proofs.YtlkbdoejeomlmaaW.PrintLast

theorem FnExactCountForest : SFnExactCountForest.Pure := by
  intro l0 a1 hl _
  refine Ev.rounds ?_
  obtain ⟨r, e, _, hq⟩ := szForest_ok l0 hl 1048576 (by omega) (by omega)
  unfold laws_FnExactCountForest.f
  refine Ev.bind e ?_
  by_cases c : r < 0
  · simp only [if_pos c]
    exact Ev.now _
  · simp only [if_neg c]
    have hsm := hq (by omega)
    have et := toForest_ok l0 hsm
    have hsl : small (l0.map cvPart) := by
      refine ⟨by rw [List.length_map]; exact hsm.1, fun p hp => ?_⟩
      obtain ⟨x, hx, rfl⟩ := List.mem_map.1 hp
      have hx2 := hsm.2 x hx
      refine ⟨by show (x.f4.map cvWay).length ≤ _; rw [List.length_map]; exact hx2.2.1, fun w hw => ?_⟩
      obtain ⟨y, hy, rfl⟩ := List.mem_map.1 hw
      exact hx2.2.2 y hy
    have hle : (l0.map cvPart).length ≤ 4611686018427387904 ∧ ∀ p ∈ l0.map cvPart, lePart p := by
      refine ⟨by have := hsl.1; omega, fun p hp => ?_⟩
      have h4 := hsl.2 p hp
      obtain ⟨x, hx, rfl⟩ := List.mem_map.1 hp
      have hx2 := hsm.2 x hx
      exact ⟨by show x.f1.length ≤ _; have := hx2.1; omega, by have := h4.1; omega, fun w hw => by have := h4.2 w hw; show w.f1.length ≤ _; omega⟩
    obtain ⟨b, e1, e2⟩ := MFnExactCountForest.same hsl a1
    refine Ev.bind et ?_
    refine Ev.bind e1 ?_
    refine Ev.bind et ?_
    refine Ev.bind e2 ?_
    simp only [if_true]
    refine Ev.bind et ?_
    refine Ev.bind (eqForest_same _ hle) ?_
    simp only [if_true]
    exact Ev.now _
end Go.Proofs.Ytlkbdoejeomlmaa.Pure
