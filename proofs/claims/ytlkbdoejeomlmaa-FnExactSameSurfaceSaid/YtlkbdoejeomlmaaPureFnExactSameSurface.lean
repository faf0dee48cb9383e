/- FnExactSameSurface: for every two surfaces the program's function and the reference's come to the same, and the surfaces are left as they were. No condition. -/
import Derived.Test.YtlkbdoejeomlmaaMFnExactSameSurface
namespace Go.Proofs.Ytlkbdoejeomlmaa.Pure
open Go.RowKit Go.Proofs.Ytlkbdoejeomlmaa.PFnExactSameSurface Go.Proofs.Ytlkbdoejeomlmaa.SFnExactSameSurface Go.Proofs.Ytlkbdoejeomlmaa.EFnExactSameSurface Go.Proofs.Ytlkbdoejeomlmaa.MFnExactSameSurface Go.Proofs.YtlkbdoejeomlmaaPl Go.Proofs.YtlkbdoejeomlmaaW.PrintWords Go.Proofs.YtlkbdoejeomlmaaW.PrintLast

theorem same_of_small (a : List S216) (b : List S218) (ha : a.length ≤ 1048576 ∧ ∀ y ∈ a, smSNode y) (hb : b.length ≤ 1048576 ∧ ∀ y ∈ b, smSRule y) :
    small (a.map cvSNode) (b.map cvSRule) ∧ ((a.map cvSNode).length ≤ 4611686018427387904 ∧ ∀ y ∈ a.map cvSNode, leSNode y) ∧ ((b.map cvSRule).length ≤ 4611686018427387904 ∧ ∀ y ∈ b.map cvSRule, leSRule y) := by
  have ex : ∀ y : S47, smExpr y → smE (cvExpr y) := fun y hy => by
    refine ⟨by show (y.f0.map cvExNode).length ≤ _; rw [List.length_map]; exact hy.1, fun z hz => ?_⟩
    obtain ⟨q, hq, rfl⟩ := List.mem_map.1 hz
    exact (hy.2 q hq).2
  have hs : small (a.map cvSNode) (b.map cvSRule) := by
    refine ⟨⟨by rw [List.length_map]; exact ha.1, fun p hp => ?_⟩, by rw [List.length_map]; exact hb.1, fun p hp => ?_⟩
    · obtain ⟨x, hx, rfl⟩ := List.mem_map.1 hp
      have h := ha.2 x hx
      refine ⟨⟨by show (x.f2.map cvExpr).length ≤ _; rw [List.length_map]; exact h.2.1.1, fun e he => ?_⟩, h.2.2.2⟩
      obtain ⟨y, hy, rfl⟩ := List.mem_map.1 he
      exact ex y (h.2.1.2 y hy)
    · obtain ⟨x, hx, rfl⟩ := List.mem_map.1 hp
      exact (hb.2 x hx).2.1
  refine ⟨hs, ⟨by have := hs.1.1; omega, fun p hp => ?_⟩, by have := hs.2.1; omega, fun p hp => ?_⟩
  · have h := hs.1.2 p hp
    refine ⟨⟨by have := h.1.1; omega, fun e he => ?_⟩, by have := h.2; omega⟩
    have h2 := h.1.2 e he
    refine ⟨by have := h2.1; omega, fun y hy => ?_⟩
    have h3 := h2.2 y hy
    unfold smN at h3
    unfold leExNode
    omega
  · have h := hs.2.2 p hp
    unfold smR at h
    unfold leSRule
    omega

theorem FnExactSameSurface : SFnExactSameSurface.Pure := by
  intro a b c d ha hb hc hd
  refine Ev.rounds ?_
  obtain ⟨r, e, hr, hq⟩ := szSurface_ok a b ha hb 1048576 (by omega) (by omega)
  unfold laws_FnExactSameSurface.f
  refine Ev.bind e ?_
  by_cases h0 : r < 0
  · simp only [if_pos h0]
    exact Ev.now _
  · simp only [if_neg h0]
    obtain ⟨r2, e2, hr2, hq2⟩ := szSurface_ok c d hc hd r (by omega) (by omega)
    refine Ev.bind e2 ?_
    by_cases h1 : r2 < 0
    · simp only [if_pos h1]
      exact Ev.now _
    · simp only [if_neg h1]
      have s1 := hq (by omega)
      have s2 := hq2 (by omega)
      have t1 := toSurface_ok a b s1.1 s1.2
      have t2 := toSurface_ok c d s2.1 s2.2
      obtain ⟨m1, le1, le1'⟩ := same_of_small a b s1.1 s1.2
      obtain ⟨m2, le2, le2'⟩ := same_of_small c d s2.1 s2.2
      have es := specSame (a.map cvSNode) (b.map cvSRule) (c.map cvSNode) (d.map cvSRule) m1
      have ei := implSame (a.map cvSNode) (b.map cvSRule) (c.map cvSNode) (d.map cvSRule) m1
      refine Ev.bind t1 (Ev.bind t2 (Ev.bind es (Ev.bind t1 (Ev.bind t2 (Ev.bind ei ?_)))))
      simp only [bne_self_eq_false, Bool.false_eq_true, if_false]
      refine Ev.bind t1 (Ev.bind (eqSurface_same _ _ le1 le1') ?_)
      simp only [if_true]
      refine Ev.bind t2 (Ev.bind (eqSurface_same _ _ le2 le2') ?_)
      simp only [if_true]
      exact Ev.now _
end Go.Proofs.Ytlkbdoejeomlmaa.Pure
