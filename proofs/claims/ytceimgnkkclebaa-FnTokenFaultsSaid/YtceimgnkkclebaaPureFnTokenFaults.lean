/- FnTokenFaults: for every code the law's call returns true (a drawn text of tokens has its fault where the document tells). No condition. -/
import Derived.Test.YtceimgnkkclebaaMTokFnTokenFaults
import Derived.Test.YtceimgnkkclebaaMDrawFnTokenFaults
namespace Go.Proofs.Ytceimgnkkclebaa.Pure
open Go.RowKit Go.Proofs.Ytceimgnkkclebaa.PFnTokenFaults Go.Proofs.Ytceimgnkkclebaa.MTokFnTokenFaults Go.Proofs.Ytceimgnkkclebaa.MDrawFnTokenFaults Go.Proofs.YtceimgnkkclebaaPl Go.Proofs.YtceimgnkkclebaaLp Go.Proofs.YtceimgnkkclebaaW.PrintWords Go.Proofs.YtceimgnkkclebaaW.PrintLast
theorem FnTokenFaults : laws_FnTokenFaults.Pure := by
  intro l _ _ _
  refine Ev.rounds ?_
  unfold laws_FnTokenFaults.f
  simp only [big_f, Option.bind_some]
  by_cases hbig : (l.length : Int) > 1048576
  · simp only [decide_eq_true hbig, if_true]; exact Ev.now _
  simp only [decide_eq_false hbig, Bool.false_eq_true, if_false]
  obtain ⟨s, es⟩ := drawTokens_ok l (by omega)
  obtain ⟨r, ri, rs, rl, rf⟩ := tokens_ok s
  refine Ev.bind es (Ev.bind ri (Ev.bind rs ?_))
  simp only [if_true, bne_self_eq_false]
  refine Ev.step (fun k => by simp only [laws_FnTokenFaults.j0, Bool.false_eq_true, if_false]; rfl) ?_
  refine scan (fun k i => laws_FnTokenFaults.l0 k r.1 r.2 r.1 i) r.1.length (fun _ => true) (by omega) (Ev.done (fun k => ?_)) (fun i hi e => Ev.step (fun k => ?_) e) 0 (by omega)
  · simp only [laws_FnTokenFaults.l0]
    rw [if_neg (by omega)]
    rcases rf with h | h
    · rw [if_pos h]
    · by_cases h0 : r.2 = 0
      · rw [if_pos h0]
      · rw [if_neg h0, h]; rfl
  · simp only [laws_FnTokenFaults.l0]
    rw [if_pos (by omega), if_pos (by omega), if_pos (by omega), if_neg (by simp)]
end Go.Proofs.Ytceimgnkkclebaa.Pure
