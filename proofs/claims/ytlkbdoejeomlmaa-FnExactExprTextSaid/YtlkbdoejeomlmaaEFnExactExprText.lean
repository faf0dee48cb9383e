/- What the law's own helpers of FnExactExprText come to: sizes, turned arguments, equality of the same. No condition. Written by a program of this session. -/
import Derived.Test.YtlkbdoejeomlmaaPFnExactExprTextx9
import Derived.Test.YtlkbdoejeomlmaaPl
import Derived.Test.YtlkbdoejeomlmaaSFnExactExprText
namespace Go.Proofs.Ytlkbdoejeomlmaa.EFnExactExprText
open Go.RowKit Go.Proofs.Ytlkbdoejeomlmaa.PFnExactExprText Go.Proofs.Ytlkbdoejeomlmaa.SFnExactExprText Go.Proofs.YtlkbdoejeomlmaaPl Go.Proofs.YtlkbdoejeomlmaaW.PrintWords Go.Proofs.YtlkbdoejeomlmaaW.PrintLast
set_option linter.unusedVariables false
set_option linter.unusedSimpArgs false
theorem szIntS_ok (l : List Int) (hl : l.length ≤ 9223372036854775807) : Sz (fun a k => laws_szIntS.f l a) (l.length ≤ 1048576) := by
  intro a h0 h1
  unfold laws_szIntS.f
  dsimp only
  rw [w64 (by omega) (by omega)]
  by_cases h : a - (l.length : Int) < 0
  · exact ⟨-1, Ev.just (fun k => by rw [if_pos h]), by omega, fun h => by omega⟩
  · exact ⟨a - l.length, Ev.just (fun k => by rw [if_neg h]), by omega, fun _ => by omega⟩
/-! ExNode -/
def smExNode (x : S204) : Prop := (x.f2.size ≤ 1048576) ∧ (x.f3.length ≤ 1048576)
theorem szExNode_ok (x : S204) (hx : wf204 x) : Sz (fun a k => laws_szExNode.f x.f0 x.f1 x.f2 x.f3 a) (smExNode x) := by
  intro a h0 h1
  unfold laws_szExNode.f smExNode
  dsimp only
  obtain ⟨hx0, hx1, hx2, hx3⟩ := hx
  have hy2 : x.f2.size ≤ 9223372036854775807 := hx2
  have w2 : wrap64 (a - (x.f2.size : Int)) = a - (x.f2.size : Int) := w64 (by omega) (by omega)
  by_cases c2 : a - (x.f2.size : Int) < 0
  · refine ⟨-1, ?_, by omega, fun h => by omega⟩
    simp only [w2, if_pos c2]
    exact Ev.now _
  obtain ⟨r3, e3, b3, q3⟩ := szIntS_ok x.f3 hx3.1 (a - (x.f2.size : Int)) (by omega) (by omega)
  by_cases c3 : r3 < 0
  · refine ⟨-1, ?_, by omega, fun h => by omega⟩
    simp only [w2, if_neg c2]
    refine Ev.bind e3 ?_
    simp only [if_pos c3]
    exact Ev.now _
  have p3 := q3 (by omega)
  refine ⟨r3, ?_, by omega, fun _ => ⟨by omega, p3⟩⟩
  simp only [w2, if_neg c2]
  refine Ev.bind e3 ?_
  simp only [if_neg c3]
  exact Ev.now _
theorem szExNodeS_ok (l : List S204) (hl : l.length ≤ 9223372036854775807) (hx : ∀ x ∈ l, wf204 x) : Sz (fun a k => laws_szExNodeS.f k l a) (l.length ≤ 1048576 ∧ ∀ x ∈ l, smExNode x) := by
  intro a h0 h1
  unfold laws_szExNodeS.f
  dsimp only
  rw [w64 (by omega) (by omega)]
  by_cases h : a - (l.length : Int) < 0
  · exact ⟨-1, Ev.just (fun k => by rw [if_pos h]), by omega, fun h => by omega⟩
  · simp only [if_neg h]
    obtain ⟨r, e, hr, hq⟩ := Sz.loop (fun k a i => laws_szExNodeS.l0 k l a i) l.length (fun i => smExNode (l.getD i z204)) (by omega) (fun a => Ev.done (fun k => by simp only [laws_szExNodeS.l0]; rw [if_neg (by omega)])) (fun i a hi h0 h1 => by
      obtain ⟨r, e, hra, hrq⟩ := szExNode_ok _ (hx _ (getD_mem l z204 hi)) a h0 h1
      have hrd : (rd_T204 l (i : Int)) = l.getD i z204 := rfl
      by_cases hneg : r < 0
      · refine ⟨-1, by omega, .inl ⟨by omega, ?_⟩⟩
        refine Ev.step (fun k => by simp only [laws_szExNodeS.l0]; rw [if_pos (by omega), if_pos (by omega), hrd]) ?_
        refine Ev.bind e ?_
        exact Ev.just (fun k => if_pos hneg)
      · refine ⟨r, hra, .inr ⟨by omega, hrq (by omega), fun q eq => ?_⟩⟩
        refine Ev.step (fun k => by simp only [laws_szExNodeS.l0]; rw [if_pos (by omega), if_pos (by omega), hrd]) ?_
        refine Ev.bind e ?_
        exact Ev.same eq (fun k => if_neg hneg)) (a - l.length) (by omega) (by omega)
    refine ⟨r, e, by omega, fun h => ⟨by omega, fun y hy => ?_⟩⟩
    obtain ⟨i, hi, rfl⟩ := List.mem_iff_getElem.1 hy
    have := hq h i hi
    simpa [List.getD, hi] using this
/-! Expr -/
theorem szExpr_ok (f0 : List (S204)) (hx0 : f0.length ≤ 9223372036854775807 ∧ ∀ x ∈ f0, wf204 x) : Sz (fun a k => laws_szExpr.f k f0 a) ((f0.length ≤ 1048576 ∧ ∀ y ∈ f0, smExNode y)) := by
  intro a h0 h1
  unfold laws_szExpr.f
  dsimp only
  obtain ⟨r0, e0, b0, q0⟩ := szExNodeS_ok f0 hx0.1 hx0.2 (a) (by omega) (by omega)
  by_cases c0 : r0 < 0
  · refine ⟨-1, ?_, by omega, fun h => by omega⟩
    refine Ev.bind e0 ?_
    simp only [if_pos c0]
    exact Ev.now _
  have p0 := q0 (by omega)
  refine ⟨r0, ?_, by omega, fun _ => p0⟩
  refine Ev.bind e0 ?_
  simp only [if_neg c0]
  exact Ev.now _
theorem toIntS_ok (l : List Int) (hl : l.length ≤ 1048576) : Ev (fun k => laws_toIntS.f k l) l := by
  unfold laws_toIntS.f
  have e0 : (0 : Int) ≤ (l.length : Int) := by omega
  have e1 : ((l.length : Int)).toNat ≤ 35184372088832 := by omega
  simp only [if_pos e0, if_pos e1]
  have hz : ((l.length : Int)).toNat = l.length := by omega
  rw [hz]
  have := fill (fun k xs i => laws_toIntS.l0 k l xs i) l.length (fun i => l.getD i 0) (by omega) (fun xs hxs => Ev.done (fun k => by simp only [laws_toIntS.l0]; rw [if_neg (by omega)])) (fun xs i r hi hxs e => by
    refine Ev.next e (fun k => ?_)
    simp only [laws_toIntS.l0]
    rw [if_pos (by omega), if_pos (by omega), if_pos (by omega)]
    rfl) (List.replicate l.length 0) (by simp)
  have hm := map_range l 0 (fun x => x)
  rw [List.map_id'] at hm
  rw [hm] at this
  exact this
def cvExNode (x : S204) : S32 := ⟨x.f0, x.f1, x.f2, x.f3⟩
theorem toExNode_ok (x : S204) (hx : smExNode x) : Ev (fun k => laws_toExNode.f k x.f0 x.f1 x.f2 x.f3) ((cvExNode x).f0, (cvExNode x).f1, (cvExNode x).f2, (cvExNode x).f3) := by
  unfold laws_toExNode.f
  unfold smExNode at hx
  refine Ev.bind (toIntS_ok x.f3 hx.2) ?_
  exact Ev.just (fun k => rfl)
theorem toExNodeS_ok (l : List S204) (hl : l.length ≤ 1048576) (hx : ∀ x ∈ l, smExNode x) : Ev (fun k => laws_toExNodeS.f k l) (l.map cvExNode) := by
  unfold laws_toExNodeS.f
  have e0 : (0 : Int) ≤ (l.length : Int) := by omega
  have e1 : ((l.length : Int)).toNat ≤ 5026338869833 := by omega
  simp only [if_pos e0, if_pos e1]
  have hz : ((l.length : Int)).toNat = l.length := by omega
  rw [hz]
  have := fill (fun k xs i => laws_toExNodeS.l0 k l xs i) l.length (fun i => cvExNode (l.getD i z204)) (by omega) (fun xs hxs => Ev.done (fun k => by simp only [laws_toExNodeS.l0]; rw [if_neg (by omega)])) (fun xs i r hi hxs e => by
    refine Ev.step (fun k => by simp only [laws_toExNodeS.l0]; rw [if_pos (by omega), if_pos (by omega)]) ?_
    refine Ev.bind (toExNode_ok (l.getD i z204) (hx _ (getD_mem l _ hi))) ?_
    exact Ev.same e (fun k => if_pos (by omega))) (List.replicate l.length z32) (by simp)
  rw [← map_range l z204 cvExNode]
  exact this
theorem toExpr_ok (f0 : List (S204)) (hx0 : f0.length ≤ 1048576 ∧ ∀ y ∈ f0, smExNode y) : Ev (fun k => laws_toExpr.f k f0) (f0.map cvExNode) := by
  unfold laws_toExpr.f
  refine Ev.bind (toExNodeS_ok f0 hx0.1 hx0.2) ?_
  exact Ev.just (fun k => rfl)
theorem eqIntS_same (l : List Int) (hl : l.length ≤ 4611686018427387904) : Ev (fun k => laws_eqIntS.f k l l) true := by
  unfold laws_eqIntS.f
  simp only [if_true]
  refine scan (fun k i => laws_eqIntS.l0 k l l i) l.length (fun _ => true) (by omega) (Ev.done (fun k => by simp only [laws_eqIntS.l0]; rw [if_neg (by omega)])) (fun i hi e => ?_) 0 (by omega)
  refine Ev.next e (fun k => ?_)
  simp only [laws_eqIntS.l0]
  rw [if_pos (by omega), if_pos (by omega), if_pos (by omega)]
  exact if_pos trivial
def leExNode (x : S32) : Prop := (x.f3.length ≤ 4611686018427387904)
theorem eqExNode_same (x : S32) (hx : leExNode x) : Ev (fun k => laws_eqExNode.f k x.f0 x.f1 x.f2 x.f3 x.f0 x.f1 x.f2 x.f3) true := by
  unfold laws_eqExNode.f
  unfold leExNode at hx
  simp only [if_true, bne_self_eq_false, Bool.false_eq_true, if_false]
  refine Ev.bind (eqIntS_same x.f3 hx) ?_
  simp only [if_true, bne_self_eq_false, Bool.false_eq_true, if_false]
  exact Ev.now _
theorem eqExNodeS_same (l : List S32) (hl : l.length ≤ 4611686018427387904) (hx : ∀ x ∈ l, leExNode x) : Ev (fun k => laws_eqExNodeS.f k l l) true := by
  unfold laws_eqExNodeS.f
  simp only [if_true]
  refine scan (fun k i => laws_eqExNodeS.l0 k l l i) l.length (fun _ => true) (by omega) (Ev.done (fun k => by simp only [laws_eqExNodeS.l0]; rw [if_neg (by omega)])) (fun i hi e => ?_) 0 (by omega)
  refine Ev.step (fun k => by simp only [laws_eqExNodeS.l0]; rw [if_pos (by omega), if_pos (by omega), if_pos (by omega)]) ?_
  refine Ev.bind (eqExNode_same _ (hx _ (getD_mem l z32 hi))) ?_
  exact Ev.same e (fun k => if_pos rfl)
theorem eqExpr_same (f0 : List (S32)) (hx0 : f0.length ≤ 4611686018427387904 ∧ ∀ y ∈ f0, leExNode y) : Ev (fun k => laws_eqExpr.f k f0 f0) true := by
  unfold laws_eqExpr.f
  refine Ev.bind (eqExNodeS_same f0 hx0.1 hx0.2) ?_
  simp only [if_true, bne_self_eq_false, Bool.false_eq_true, if_false]
  exact Ev.now _
end Go.Proofs.Ytlkbdoejeomlmaa.EFnExactExprText
