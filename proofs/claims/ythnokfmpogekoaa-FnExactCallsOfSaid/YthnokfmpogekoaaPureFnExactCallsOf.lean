/- FnExactCallsOf: for every grammar and every rule's number the program's CallsOf and the reference's come to the same, what came in stays as it was, and what comes out shares no memory with it or with another call's. No condition. -/
import Derived.Test.YthnokfmpogekoaaMFnExactCallsOf
namespace Go.Proofs.Ythnokfmpogekoaa.Pure
open Go.RowKit Go.Proofs.Ythnokfmpogekoaa.PFnExactCallsOf Go.Proofs.Ythnokfmpogekoaa.SFnExactCallsOf Go.Proofs.Ythnokfmpogekoaa.EFnExactCallsOf Go.Proofs.Ythnokfmpogekoaa.MFnExactCallsOf Go.Proofs.YthnokfmpogekoaaPl Go.Proofs.YthnokfmpogekoaaW.PrintWords Go.Proofs.YthnokfmpogekoaaW.PrintLast

theorem leE_cv (y : S123) (hy : smExpr y) : leExpr (cvExpr y) := by
  refine ⟨by show (y.f0.map cvExNode).length ≤ _; rw [List.length_map]; have := hy.1; omega, fun z hz => ?_⟩
  obtain ⟨q, hq, rfl⟩ := List.mem_map.1 hz
  have := (hy.2 q hq).2
  show q.f3.length ≤ _
  omega
theorem leS_cv (y : S110) (hy : smSym y) : leSym (cvSym y) := by
  refine ⟨by show (y.f2.map cvExpr).length ≤ _; rw [List.length_map]; have := hy.2.1.1; omega, fun z hz => ?_⟩
  obtain ⟨q, hq, rfl⟩ := List.mem_map.1 hz
  exact leE_cv q (hy.2.1.2 q hq)
theorem leA_cv (y : S86) (hy : smAlt y) : leAlt (cvAlt y) := by
  refine ⟨by show (y.f0.map cvSym).length ≤ _; rw [List.length_map]; have := hy.1; omega, fun z hz => ?_⟩
  obtain ⟨q, hq, rfl⟩ := List.mem_map.1 hz
  exact leS_cv q (hy.2 q hq)
theorem leR_cv (y : S58) (hy : smRule y) : leRule (cvRule y) := by
  refine ⟨by have := hy.2.1.1; show y.f1.length ≤ _; omega, by show (y.f2.map cvAlt).length ≤ _; rw [List.length_map]; have := hy.2.2.1; omega, fun z hz => ?_⟩
  obtain ⟨q, hq, rfl⟩ := List.mem_map.1 hz
  exact leA_cv q (hy.2.2.2 q hq)
theorem small_cv (a : List S58) (ha : a.length ≤ 1048576 ∧ ∀ y ∈ a, smRule y) : smallG (a.map cvRule) := by
  refine ⟨by rw [List.length_map]; exact ha.1, fun x hx => ?_⟩
  obtain ⟨q, hq, rfl⟩ := List.mem_map.1 hx
  have h := ha.2 q hq
  refine ⟨by show (q.f2.map cvAlt).length ≤ _; rw [List.length_map]; exact h.2.2.1, fun y hy => ?_⟩
  obtain ⟨z, hz, rfl⟩ := List.mem_map.1 hy
  show (z.f0.map cvSym).length ≤ _
  rw [List.length_map]
  exact (h.2.2.2 z hz).1

theorem FnExactCallsOf : SFnExactCallsOf.Pure := by
  intro a rule ha hrule
  refine Ev.rounds ?_
  obtain ⟨r, e, hr, hq⟩ := szGrammar_ok a ha 1048576 (by omega) (by omega)
  unfold laws_FnExactCallsOf.f
  refine Ev.bind e ?_
  by_cases h0 : r < 0
  · simp only [if_pos h0]
    exact Ev.now _
  simp only [if_neg h0]
  have s := hq (by omega)
  have t := toGrammar_ok a s
  have hcount : (((a.map cvRule).map cnt_k41).sum : Int) ≤ 3 * (1048576 - r) := by
    obtain ⟨k, hk⟩ := Ev.rounds e
    unfold laws_szGrammar.f at hk
    obtain ⟨q, hq1, hq2⟩ := Option.bind_eq_some_iff.1 hk
    by_cases c : q < 0
    · rw [if_pos c] at hq2
      have := Option.some.inj hq2
      omega
    · rw [if_neg c] at hq2
      have := Option.some.inj hq2
      subst this
      have := (dnRuleS k a s 1048576 q (by omega) (by omega) hq1 (by omega)).2
      rw [List.map_map]
      simp only [Function.comp_def]
      omega
  have hG := small_cv a s
  have hE : leGrammar ⟨a.map cvRule⟩ := ⟨by show (a.map cvRule).length ≤ _; rw [List.length_map]; have := s.1; omega, fun x hx => by
    obtain ⟨q, hq, rfl⟩ := List.mem_map.1 hx
    exact leR_cv q (s.2 q hq)⟩
  have hlen := called_len _ rule hG
  have hM : laws_markGrammar.f (a.map cvRule) 1 = some (1 + ((((a.map cvRule).map cnt_k41).sum : Nat) : Int)) := by
    unfold laws_markGrammar.f
    rw [if_pos ⟨by omega, by omega⟩]
  obtain ⟨mk, hmk⟩ := marks_exist
  refine Ev.bind t (Ev.bind (spec_ok _ rule hG) (Ev.bind t (Ev.bind (impl_ok _ rule hG) (Ev.bind (eqStringS_same _ (by omega)) ?_))))
  simp only [if_true]
  refine Ev.bind t (Ev.bind (eqGrammar_same ⟨a.map cvRule⟩ hE) ?_)
  simp only [if_true, hM, Option.bind_some, if_neg (show ¬ (1 + ((((a.map cvRule).map cnt_k41).sum : Nat) : Int)) < 0 by omega)]
  refine Ev.bind (eqStringS_same _ (by omega)) ?_
  refine Ev.step (fun k => by simp only [Bool.not_true, laws_FnExactCallsOf.j0, Bool.false_eq_true, if_false]; rfl) ?_
  have hd := held_ok mk hmk (called (a.map cvRule) rule).length (by omega)
  refine Ev.bind (mark_ok mk hmk _ (by omega)) (Ev.bind hd ?_)
  simp only [if_neg (show ¬ (1 + ((called (a.map cvRule) rule).length : Int)) < 0 by omega), if_true]
  refine Ev.bind t (Ev.bind (impl_ok _ rule hG) (Ev.bind (eqStringS_same _ (by omega)) ?_))
  simp only [if_true]
  refine Ev.bind hd ?_
  simp only [if_neg (show ¬ (1 + ((called (a.map cvRule) rule).length : Int)) < 0 by omega), if_true]
  exact Ev.now _
end Go.Proofs.Ythnokfmpogekoaa.Pure
