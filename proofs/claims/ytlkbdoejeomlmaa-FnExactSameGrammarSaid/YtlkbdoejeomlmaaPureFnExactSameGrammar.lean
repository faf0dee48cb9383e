/- FnExactSameGrammar: for every two grammars the program's function and the reference's come to the same, and the grammars are left as they were. No condition. -/
import Derived.Test.YtlkbdoejeomlmaaMFnExactSameGrammar
namespace Go.Proofs.Ytlkbdoejeomlmaa.Pure
open Go.RowKit Go.Proofs.Ytlkbdoejeomlmaa.PFnExactSameGrammar Go.Proofs.Ytlkbdoejeomlmaa.SFnExactSameGrammar Go.Proofs.Ytlkbdoejeomlmaa.EFnExactSameGrammar Go.Proofs.Ytlkbdoejeomlmaa.MFnExactSameGrammar Go.Proofs.YtlkbdoejeomlmaaPl Go.Proofs.YtlkbdoejeomlmaaW.PrintWords Go.Proofs.YtlkbdoejeomlmaaW.PrintLast

theorem smE_cv (y : S47) (hy : smExpr y) : smE (cvExpr y) := by
  refine ⟨by show (y.f0.map cvExNode).length ≤ _; rw [List.length_map]; exact hy.1, fun z hz => ?_⟩
  obtain ⟨q, hq, rfl⟩ := List.mem_map.1 hz
  exact (hy.2 q hq).2
theorem smS_cv (y : S277) (hy : smSym y) : smS (cvSym y) := by
  refine ⟨by show (y.f2.map cvExpr).length ≤ _; rw [List.length_map]; exact hy.2.1.1, fun z hz => ?_⟩
  obtain ⟨q, hq, rfl⟩ := List.mem_map.1 hz
  exact smE_cv q (hy.2.1.2 q hq)
theorem smA_cv (y : S261) (hy : smAlt y) : smA (cvAlt y) := by
  refine ⟨by show (y.f0.map cvSym).length ≤ _; rw [List.length_map]; exact hy.1, fun z hz => ?_⟩
  obtain ⟨q, hq, rfl⟩ := List.mem_map.1 hz
  exact smS_cv q (hy.2 q hq)
theorem smR_cv (y : S225) (hy : smRule y) : smR (cvRule y) := by
  refine ⟨hy.2.1.1, by show (y.f2.map cvAlt).length ≤ _; rw [List.length_map]; exact hy.2.2.1, fun z hz => ?_⟩
  obtain ⟨q, hq, rfl⟩ := List.mem_map.1 hz
  exact smA_cv q (hy.2.2.2 q hq)
theorem leE_of (e : S26) (h : smE e) : leExpr e := by
  refine ⟨by have := h.1; omega, fun y hy => ?_⟩
  have h3 := h.2 y hy
  unfold smN at h3
  unfold leExNode
  omega
theorem leS_of (x : S167) (h : smS x) : leSym x := ⟨by have := h.1; omega, fun y hy => leE_of y (h.2 y hy)⟩
theorem leA_of (x : S165) (h : smA x) : leAlt x := ⟨by have := h.1; omega, fun y hy => leS_of y (h.2 y hy)⟩
theorem leR_of (x : S162) (h : smR x) : leRule x := ⟨by have := h.1; omega, by have := h.2.1; omega, fun y hy => leA_of y (h.2.2 y hy)⟩
theorem same_of_small (a : List S225) (ha : a.length ≤ 1048576 ∧ ∀ y ∈ a, smRule y) :
    small (a.map cvRule) ∧ ((a.map cvRule).length ≤ 4611686018427387904 ∧ ∀ y ∈ a.map cvRule, leRule y) := by
  have hs : small (a.map cvRule) := by
    refine ⟨by rw [List.length_map]; exact ha.1, fun p hp => ?_⟩
    obtain ⟨x, hx, rfl⟩ := List.mem_map.1 hp
    exact smR_cv x (ha.2 x hx)
  exact ⟨hs, by have := hs.1; omega, fun p hp => leR_of p (hs.2 p hp)⟩

theorem FnExactSameGrammar : SFnExactSameGrammar.Pure := by
  intro a b ha hb
  refine Ev.rounds ?_
  obtain ⟨r, e, hr, hq⟩ := szGrammar_ok a ha 1048576 (by omega) (by omega)
  unfold laws_FnExactSameGrammar.f
  refine Ev.bind e ?_
  by_cases h0 : r < 0
  · simp only [if_pos h0]
    exact Ev.now _
  · simp only [if_neg h0]
    obtain ⟨r2, e2, hr2, hq2⟩ := szGrammar_ok b hb r (by omega) (by omega)
    refine Ev.bind e2 ?_
    by_cases h1 : r2 < 0
    · simp only [if_pos h1]
      exact Ev.now _
    · simp only [if_neg h1]
      have s1 := hq (by omega)
      have s2 := hq2 (by omega)
      have t1 := toGrammar_ok a s1
      have t2 := toGrammar_ok b s2
      obtain ⟨m1, le1⟩ := same_of_small a s1
      obtain ⟨m2, le2⟩ := same_of_small b s2
      have es := specSame (a.map cvRule) (b.map cvRule) m1
      have ei := implSame (a.map cvRule) (b.map cvRule) m1
      refine Ev.bind t1 (Ev.bind t2 (Ev.bind es (Ev.bind t1 (Ev.bind t2 (Ev.bind ei ?_)))))
      simp only [bne_self_eq_false, Bool.false_eq_true, if_false]
      refine Ev.bind t1 (Ev.bind (eqGrammar_same _ le1) ?_)
      simp only [if_true]
      refine Ev.bind t2 (Ev.bind (eqGrammar_same _ le2) ?_)
      simp only [if_true]
      exact Ev.now _
end Go.Proofs.Ytlkbdoejeomlmaa.Pure
