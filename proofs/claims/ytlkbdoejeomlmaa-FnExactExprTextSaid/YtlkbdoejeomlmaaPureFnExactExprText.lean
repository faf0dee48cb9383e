/- FnExactExprText: for every expression the program's function and the reference's come to the same, and the expression is left as it was. No condition. -/
import Derived.Test.YtlkbdoejeomlmaaMFnExactExprText
namespace Go.Proofs.Ytlkbdoejeomlmaa.Pure
open Go.RowKit Go.Proofs.Ytlkbdoejeomlmaa.PFnExactExprText Go.Proofs.Ytlkbdoejeomlmaa.SFnExactExprText Go.Proofs.Ytlkbdoejeomlmaa.EFnExactExprText Go.Proofs.Ytlkbdoejeomlmaa.MFnExactExprText Go.Proofs.YtlkbdoejeomlmaaPl Go.Proofs.YtlkbdoejeomlmaaW.PrintWords Go.Proofs.YtlkbdoejeomlmaaW.PrintLast

theorem FnExactExprText : SFnExactExprText.Pure := by
  intro l0 hl
  refine Ev.rounds ?_
  obtain ⟨r, e, _, hq⟩ := szExpr_ok l0 hl 1048576 (by omega) (by omega)
  unfold laws_FnExactExprText.f
  refine Ev.bind e ?_
  by_cases c : r < 0
  · simp only [if_pos c]
    exact Ev.now _
  · simp only [if_neg c]
    have hsm := hq (by omega)
    have et := toExpr_ok l0 hsm
    have hsl : small (l0.map cvExNode) := by
      refine ⟨by rw [List.length_map]; exact hsm.1, fun p hp => ?_⟩
      obtain ⟨x, hx, rfl⟩ := List.mem_map.1 hp
      exact hsm.2 x hx
    have hle : (l0.map cvExNode).length ≤ 4611686018427387904 ∧ ∀ p ∈ l0.map cvExNode, leExNode p := by
      refine ⟨by have := hsl.1; omega, fun p hp => ?_⟩
      have := (hsl.2 p hp).2
      unfold leExNode
      omega
    obtain ⟨⟨b1, b2⟩, e1, e2⟩ := MFnExactExprText.same hsl
    refine Ev.bind et ?_
    refine Ev.bind e1 ?_
    refine Ev.bind et ?_
    refine Ev.bind e2 ?_
    simp only [if_true, bne_self_eq_false]
    refine Ev.step (fun k => by simp only [laws_FnExactExprText.j0]; exact if_neg Bool.false_ne_true) ?_
    refine Ev.bind et ?_
    refine Ev.bind (eqExpr_same _ hle) ?_
    simp only [if_true]
    exact Ev.now _
end Go.Proofs.Ytlkbdoejeomlmaa.Pure
