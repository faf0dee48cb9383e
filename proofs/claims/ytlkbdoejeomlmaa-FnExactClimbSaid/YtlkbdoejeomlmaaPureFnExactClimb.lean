/- FnExactClimb: for every list of operators and every text the program's Climb and the reference's come to the same, and the list is left as it was. No condition. -/
import Derived.Test.YtlkbdoejeomlmaaMFnExactClimb
namespace Go.Proofs.Ytlkbdoejeomlmaa.Pure
open Go.RowKit Go.Proofs.Ytlkbdoejeomlmaa.PFnExactClimb Go.Proofs.Ytlkbdoejeomlmaa.SFnExactClimb Go.Proofs.Ytlkbdoejeomlmaa.EFnExactClimb Go.Proofs.Ytlkbdoejeomlmaa.OFnExactClimb Go.Proofs.Ytlkbdoejeomlmaa.MFnExactClimb Go.Proofs.YtlkbdoejeomlmaaPl Go.Proofs.YtlkbdoejeomlmaaW.PrintWords Go.Proofs.YtlkbdoejeomlmaaW.PrintLast

theorem FnExactClimb : SFnExactClimb.Pure := by
  intro l0 a1 hl ha
  refine Ev.rounds ?_
  unfold laws_FnExactClimb.f
  by_cases hs : (a1.size : Int) > 1048576
  · simp only [if_pos hs]
    exact Ev.now _
  · simp only [if_neg hs]
    obtain ⟨r, e, _, hq⟩ := szOpS_ok l0 hl.1 hl.2 1048576 (by omega) (by omega)
    refine Ev.bind e ?_
    by_cases c : r < 0
    · simp only [if_pos c]
      exact Ev.now _
    · simp only [if_neg c]
      obtain ⟨hlen, hsm⟩ := hq (by omega)
      have et := toOpS_ok l0 hlen hsm
      have hlm : (l0.map cvOp).length ≤ 1048576 := by rw [List.length_map]; exact hlen
      obtain ⟨q, ei, es⟩ := climbs (l0.map cvOp) hlm a1
      refine Ev.bind et (Ev.bind es (Ev.bind et (Ev.bind ei ?_)))
      simp only [if_true, bne_self_eq_false]
      refine Ev.step (f := fun k => (laws_toOpS.f k l0).bind fun t => ((laws_eqOpS.f k (l0.map cvOp) t).bind fun u => (if u = true then (some true) else (some false)))) (fun k => by simp only [laws_FnExactClimb.j0]; rw [if_neg Bool.false_ne_true]) ?_
      refine Ev.bind et (Ev.bind (eqOpS_same _ (by omega) (fun _ _ => trivial)) ?_)
      simp only [if_true]
      exact Ev.now _
end Go.Proofs.Ytlkbdoejeomlmaa.Pure
