/- FnExactOpsOk: for every list of operators the program's OpsOk and the reference's come to the same, and the list is left as it was. No condition. -/
import Derived.Test.YthlaimelcocioaaMFnExactOpsOk
namespace Go.Proofs.Ythlaimelcocioaa.Pure
open Go.RowKit Go.Proofs.Ythlaimelcocioaa.PFnExactOpsOk Go.Proofs.Ythlaimelcocioaa.SFnExactOpsOk Go.Proofs.Ythlaimelcocioaa.EFnExactOpsOk Go.Proofs.Ythlaimelcocioaa.MFnExactOpsOk Go.Proofs.YthlaimelcocioaaPl Go.Proofs.YthlaimelcocioaaW.PrintWords Go.Proofs.YthlaimelcocioaaW.PrintLast

theorem FnExactOpsOk : SFnExactOpsOk.Pure := by
  intro l0 hl
  refine Ev.rounds ?_
  obtain ⟨r, e, _, hq⟩ := szOpS_ok l0 hl.1 hl.2 1048576 (by omega) (by omega)
  unfold laws_FnExactOpsOk.f
  refine Ev.bind e ?_
  by_cases c : r < 0
  · simp only [if_pos c]
    exact Ev.now _
  · simp only [if_neg c]
    obtain ⟨hlen, hsm⟩ := hq (by omega)
    have et := toOpS_ok l0 hlen hsm
    have hlm : (l0.map cvOp).length ≤ 1048576 := by rw [List.length_map]; exact hlen
    refine Ev.bind et ?_
    refine Ev.bind (spec_all _ hlm) ?_
    refine Ev.bind et ?_
    refine Ev.bind (impl_all _ hlm) ?_
    simp only [bne_self_eq_false, Bool.false_eq_true, if_false]
    refine Ev.bind et ?_
    refine Ev.bind (eqOpS_same _ (by omega) (fun _ _ => trivial)) ?_
    simp only [if_true]
    exact Ev.now _
end Go.Proofs.Ythlaimelcocioaa.Pure
