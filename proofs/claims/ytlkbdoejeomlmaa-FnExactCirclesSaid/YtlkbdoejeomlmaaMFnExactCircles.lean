/- The program's Circles and the reference's come to the same on plain lists of at most 1048576 places each. -/
import Derived.Test.YtlkbdoejeomlmaaRFnExactCircles
namespace Go.Proofs.Ytlkbdoejeomlmaa.MFnExactCircles
open Go.RowKit Go.Proofs.Ytlkbdoejeomlmaa.PFnExactCircles Go.Proofs.Ytlkbdoejeomlmaa.RFnExactCircles Go.Proofs.Ytlkbdoejeomlmaa.EFnExactCircles Go.Proofs.YtlkbdoejeomlmaaPl Go.Proofs.YtlkbdoejeomlmaaW.PrintWords Go.Proofs.YtlkbdoejeomlmaaW.PrintLast
set_option linter.unusedVariables false

theorem same {l : List S118} (hs : small l) : ∃ r, Ev (fun k => spec_Circles.f k l) r ∧ Ev (fun k => impl_Circles.f k l) r := by
  have hn := hs.1
  have main : ∀ (d i : Nat), i + d = l.length → ∃ r, Ev (fun k => spec_Circles.l0 k (i : Int) l) r ∧ Ev (fun k => impl_Circles.l0 k (l.length : Int) (i : Int) l) r := by
    intro d
    induction d with
    | zero =>
      intro i h
      exact ⟨false, Ev.done (fun k => by simp only [spec_Circles.l0]; rw [if_neg (by omega)]), Ev.done (fun k => by simp only [impl_Circles.l0]; rw [if_neg (by omega)])⟩
    | succ d ih =>
      intro i h
      have hi : i < l.length := by omega
      have hw : wrap64 ((i : Int) + 1) = ((i + 1 : Nat) : Int) := up64 hi (by omega)
      have h1 : (i : Int) < (l.length : Int) := by omega
      have h2 : (0 : Int) ≤ (i : Int) := by omega
      obtain ⟨m, c, em, ec, hml, hcl, hmem, _⟩ := reach hs i hi
      have h3 : (i : Int) < (m.length : Int) := by omega
      obtain ⟨r, e1, e2⟩ := ih (i + 1) (by omega)
      rw [← hw] at e1 e2
      have ek := contains_ok c (i : Int) (by omega)
      by_cases hb : m.getD i false = true
      · have hd : decide ((i : Int) ∈ c) = true := decide_eq_true ((hmem i hi).1 hb)
        refine ⟨true, ?_, ?_⟩
        · refine Ev.step (fun k => by simp only [spec_Circles.l0]; rw [if_pos h1]) ?_
          refine Ev.bind em (Ev.just (fun k => ?_))
          rw [if_pos h2, if_pos h3, rdB, if_pos hb]
        · refine Ev.step (fun k => by simp only [impl_Circles.l0]; rw [if_pos h1]) ?_
          refine Ev.bind ec (Ev.bind ek (Ev.just (fun k => ?_)))
          rw [if_pos hd]
      · have hd : ¬ (decide ((i : Int) ∈ c) = true) := fun hc => hb ((hmem i hi).2 (of_decide_eq_true hc))
        refine ⟨r, ?_, ?_⟩
        · refine Ev.step (fun k => by simp only [spec_Circles.l0]; rw [if_pos h1]) ?_
          refine Ev.bind em (Ev.same e1 (fun k => ?_))
          rw [if_pos h2, if_pos h3, rdB, if_neg hb]
        · refine Ev.step (fun k => by simp only [impl_Circles.l0]; rw [if_pos h1]) ?_
          refine Ev.bind ec (Ev.bind ek (Ev.same e2 (fun k => ?_)))
          rw [if_neg hd]
  obtain ⟨r, e1, e2⟩ := main l.length 0 (by omega)
  exact ⟨r, e1, e2⟩
end Go.Proofs.Ytlkbdoejeomlmaa.MFnExactCircles
