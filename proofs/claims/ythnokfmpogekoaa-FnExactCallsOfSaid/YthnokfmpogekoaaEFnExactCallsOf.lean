/- What the law's own helpers of FnExactCallsOf come to: sizes, turned arguments, equality of the same. No condition. Written by a program of this session. -/
import Derived.Test.YthnokfmpogekoaaPFnExactCallsOfx12
import Derived.Test.YthnokfmpogekoaaPl
import Derived.Test.YthnokfmpogekoaaSFnExactCallsOf
namespace Go.Proofs.Ythnokfmpogekoaa.EFnExactCallsOf
open Go.RowKit Go.Proofs.Ythnokfmpogekoaa.PFnExactCallsOf Go.Proofs.Ythnokfmpogekoaa.SFnExactCallsOf Go.Proofs.YthnokfmpogekoaaPl Go.Proofs.YthnokfmpogekoaaW.PrintWords Go.Proofs.YthnokfmpogekoaaW.PrintLast
set_option linter.unusedVariables false
set_option linter.unusedSimpArgs false
theorem szIntS_ok (l : List Int) (hl : l.length ≤ 9223372036854775807) : Sz (fun a k => laws_szIntS.f l a) (l.length ≤ 1048576) := by
  intro a h0 h1
  unfold laws_szIntS.f
  dsimp only
  rw [w64 (by omega) (by omega)]
  by_cases h : a - (l.length : Int) < 0
  · exact ⟨-1, Ev.just (fun k => by rw [if_pos h]), by omega, fun h => by omega⟩
  · exact ⟨a - l.length, Ev.just (fun k => by rw [if_neg h]), by omega, fun _ => by omega⟩
theorem szStringS_ok (l : List ByteArray) (hl : l.length ≤ 9223372036854775807) (hs : ∀ s ∈ l, s.size ≤ 9223372036854775807) : Sz (fun a k => laws_szStringS.f k l a) (l.length ≤ 1048576 ∧ ∀ s ∈ l, s.size ≤ 1048576) := by
  intro a h0 h1
  unfold laws_szStringS.f
  dsimp only
  rw [w64 (by omega) (by omega)]
  by_cases h : a - (l.length : Int) < 0
  · exact ⟨-1, Ev.just (fun k => by rw [if_pos h]), by omega, fun h => by omega⟩
  · simp only [if_neg h]
    obtain ⟨r, e, hr, hq⟩ := Sz.loop (fun k a i => laws_szStringS.l0 k l a i) l.length (fun i => (l.getD i ByteArray.empty).size ≤ 1048576) (by omega) (fun a => Ev.done (fun k => by simp only [laws_szStringS.l0]; rw [if_neg (by omega)])) (fun i a hi h0 h1 => by
      have hsz := hs _ (getD_mem l ByteArray.empty hi)
      have hrd : (rdOf ByteArray.empty l (i : Int)) = l.getD i ByteArray.empty := rfl
      by_cases hneg : a - ((l.getD i ByteArray.empty).size : Int) < 0
      · refine ⟨-1, by omega, .inl ⟨by omega, Ev.done (fun k => ?_)⟩⟩
        simp only [laws_szStringS.l0]
        rw [if_pos (by omega), if_pos (by omega), hrd, w64 (by omega) (by omega), if_pos hneg]
      · refine ⟨a - ((l.getD i ByteArray.empty).size : Int), by omega, .inr ⟨by omega, by omega, fun q e => Ev.next e (fun k => ?_)⟩⟩
        simp only [laws_szStringS.l0]
        rw [if_pos (by omega), if_pos (by omega), hrd, w64 (x := a - ((l.getD i ByteArray.empty).size : Int)) (by omega) (by omega), if_neg hneg]) (a - l.length) (by omega) (by omega)
    refine ⟨r, e, by omega, fun h => ⟨by omega, fun s hs => ?_⟩⟩
    obtain ⟨i, hi, rfl⟩ := List.mem_iff_getElem.1 hs
    have := hq h i hi
    simpa [List.getD, hi] using this
/-! ExNode -/
def smExNode (x : S130) : Prop := (x.f2.size ≤ 1048576) ∧ (x.f3.length ≤ 1048576)
theorem szExNode_ok (x : S130) (hx : wf130 x) : Sz (fun a k => laws_szExNode.f x.f0 x.f1 x.f2 x.f3 a) (smExNode x) := by
  intro a h0 h1
  unfold laws_szExNode.f smExNode
  dsimp only
  obtain ⟨hx0, hx1, hx2, hx3⟩ := hx
  have hy2 : x.f2.size ≤ 9223372036854775807 := hx2
  have w2 : wrap64 (a - (x.f2.size : Int)) = a - (x.f2.size : Int) := w64 (by omega) (by omega)
  by_cases c2 : a - (x.f2.size : Int) < 0
  · refine ⟨-1, ?_, by omega, fun h => by omega⟩
    simp only [w2, if_pos c2]
    exact Ev.now _
  obtain ⟨r3, e3, b3, q3⟩ := szIntS_ok x.f3 hx3.1 (a - (x.f2.size : Int)) (by omega) (by omega)
  by_cases c3 : r3 < 0
  · refine ⟨-1, ?_, by omega, fun h => by omega⟩
    simp only [w2, if_neg c2]
    refine Ev.bind e3 ?_
    simp only [if_pos c3]
    exact Ev.now _
  have p3 := q3 (by omega)
  refine ⟨r3, ?_, by omega, fun _ => ⟨by omega, p3⟩⟩
  simp only [w2, if_neg c2]
  refine Ev.bind e3 ?_
  simp only [if_neg c3]
  exact Ev.now _
theorem szExNodeS_ok (l : List S130) (hl : l.length ≤ 9223372036854775807) (hx : ∀ x ∈ l, wf130 x) : Sz (fun a k => laws_szExNodeS.f k l a) (l.length ≤ 1048576 ∧ ∀ x ∈ l, smExNode x) := by
  intro a h0 h1
  unfold laws_szExNodeS.f
  dsimp only
  rw [w64 (by omega) (by omega)]
  by_cases h : a - (l.length : Int) < 0
  · exact ⟨-1, Ev.just (fun k => by rw [if_pos h]), by omega, fun h => by omega⟩
  · simp only [if_neg h]
    obtain ⟨r, e, hr, hq⟩ := Sz.loop (fun k a i => laws_szExNodeS.l0 k l a i) l.length (fun i => smExNode (l.getD i z130)) (by omega) (fun a => Ev.done (fun k => by simp only [laws_szExNodeS.l0]; rw [if_neg (by omega)])) (fun i a hi h0 h1 => by
      obtain ⟨r, e, hra, hrq⟩ := szExNode_ok _ (hx _ (getD_mem l z130 hi)) a h0 h1
      have hrd : (rd_T130 l (i : Int)) = l.getD i z130 := rfl
      by_cases hneg : r < 0
      · refine ⟨-1, by omega, .inl ⟨by omega, ?_⟩⟩
        refine Ev.step (fun k => by simp only [laws_szExNodeS.l0]; rw [if_pos (by omega), if_pos (by omega), hrd]) ?_
        refine Ev.bind e ?_
        exact Ev.just (fun k => if_pos hneg)
      · refine ⟨r, hra, .inr ⟨by omega, hrq (by omega), fun q eq => ?_⟩⟩
        refine Ev.step (fun k => by simp only [laws_szExNodeS.l0]; rw [if_pos (by omega), if_pos (by omega), hrd]) ?_
        refine Ev.bind e ?_
        exact Ev.same eq (fun k => if_neg hneg)) (a - l.length) (by omega) (by omega)
    refine ⟨r, e, by omega, fun h => ⟨by omega, fun y hy => ?_⟩⟩
    obtain ⟨i, hi, rfl⟩ := List.mem_iff_getElem.1 hy
    have := hq h i hi
    simpa [List.getD, hi] using this
/-! Expr -/
def smExpr (x : S123) : Prop := (x.f0.length ≤ 1048576 ∧ ∀ y ∈ x.f0, smExNode y)
theorem szExpr_ok (x : S123) (hx : wf123 x) : Sz (fun a k => laws_szExpr.f k x.f0 a) (smExpr x) := by
  intro a h0 h1
  unfold laws_szExpr.f smExpr
  dsimp only
  have hx0 := hx
  obtain ⟨r0, e0, b0, q0⟩ := szExNodeS_ok x.f0 hx0.1 hx0.2 (a) (by omega) (by omega)
  by_cases c0 : r0 < 0
  · refine ⟨-1, ?_, by omega, fun h => by omega⟩
    refine Ev.bind e0 ?_
    simp only [if_pos c0]
    exact Ev.now _
  have p0 := q0 (by omega)
  refine ⟨r0, ?_, by omega, fun _ => p0⟩
  refine Ev.bind e0 ?_
  simp only [if_neg c0]
  exact Ev.now _
theorem szExprS_ok (l : List S123) (hl : l.length ≤ 9223372036854775807) (hx : ∀ x ∈ l, wf123 x) : Sz (fun a k => laws_szExprS.f k l a) (l.length ≤ 1048576 ∧ ∀ x ∈ l, smExpr x) := by
  intro a h0 h1
  unfold laws_szExprS.f
  dsimp only
  rw [w64 (by omega) (by omega)]
  by_cases h : a - (l.length : Int) < 0
  · exact ⟨-1, Ev.just (fun k => by rw [if_pos h]), by omega, fun h => by omega⟩
  · simp only [if_neg h]
    obtain ⟨r, e, hr, hq⟩ := Sz.loop (fun k a i => laws_szExprS.l0 k l a i) l.length (fun i => smExpr (l.getD i z123)) (by omega) (fun a => Ev.done (fun k => by simp only [laws_szExprS.l0]; rw [if_neg (by omega)])) (fun i a hi h0 h1 => by
      obtain ⟨r, e, hra, hrq⟩ := szExpr_ok _ (hx _ (getD_mem l z123 hi)) a h0 h1
      have hrd : (rd_T123 l (i : Int)) = l.getD i z123 := rfl
      by_cases hneg : r < 0
      · refine ⟨-1, by omega, .inl ⟨by omega, ?_⟩⟩
        refine Ev.step (fun k => by simp only [laws_szExprS.l0]; rw [if_pos (by omega), if_pos (by omega), hrd]) ?_
        refine Ev.bind e ?_
        exact Ev.just (fun k => if_pos hneg)
      · refine ⟨r, hra, .inr ⟨by omega, hrq (by omega), fun q eq => ?_⟩⟩
        refine Ev.step (fun k => by simp only [laws_szExprS.l0]; rw [if_pos (by omega), if_pos (by omega), hrd]) ?_
        refine Ev.bind e ?_
        exact Ev.same eq (fun k => if_neg hneg)) (a - l.length) (by omega) (by omega)
    refine ⟨r, e, by omega, fun h => ⟨by omega, fun y hy => ?_⟩⟩
    obtain ⟨i, hi, rfl⟩ := List.mem_iff_getElem.1 hy
    have := hq h i hi
    simpa [List.getD, hi] using this
/-! Sym -/
def smSym (x : S110) : Prop := (x.f1.size ≤ 1048576) ∧ (x.f2.length ≤ 1048576 ∧ ∀ y ∈ x.f2, smExpr y) ∧ (x.f3.size ≤ 1048576)
theorem szSym_ok (x : S110) (hx : wf110 x) : Sz (fun a k => laws_szSym.f k x.f0 x.f1 x.f2 x.f3 a) (smSym x) := by
  intro a h0 h1
  unfold laws_szSym.f smSym
  dsimp only
  obtain ⟨hx0, hx1, hx2, hx3⟩ := hx
  have hy1 : x.f1.size ≤ 9223372036854775807 := hx1
  have w1 : wrap64 (a - (x.f1.size : Int)) = a - (x.f1.size : Int) := w64 (by omega) (by omega)
  by_cases c1 : a - (x.f1.size : Int) < 0
  · refine ⟨-1, ?_, by omega, fun h => by omega⟩
    simp only [w1, if_pos c1]
    exact Ev.now _
  obtain ⟨r2, e2, b2, q2⟩ := szExprS_ok x.f2 hx2.1 hx2.2 (a - (x.f1.size : Int)) (by omega) (by omega)
  by_cases c2 : r2 < 0
  · refine ⟨-1, ?_, by omega, fun h => by omega⟩
    simp only [w1, if_neg c1]
    refine Ev.bind e2 ?_
    simp only [if_pos c2]
    exact Ev.now _
  have p2 := q2 (by omega)
  have hy3 : x.f3.size ≤ 9223372036854775807 := hx3
  have w3 : wrap64 (r2 - (x.f3.size : Int)) = r2 - (x.f3.size : Int) := w64 (by omega) (by omega)
  by_cases c3 : r2 - (x.f3.size : Int) < 0
  · refine ⟨-1, ?_, by omega, fun h => by omega⟩
    simp only [w1, if_neg c1]
    refine Ev.bind e2 ?_
    simp only [if_neg c2]
    simp only [w3, if_pos c3]
    exact Ev.now _
  refine ⟨r2 - (x.f3.size : Int), ?_, by omega, fun _ => ⟨by omega, p2, by omega⟩⟩
  simp only [w1, if_neg c1]
  refine Ev.bind e2 ?_
  simp only [if_neg c2]
  simp only [w3, if_neg c3]
  exact Ev.now _
theorem szSymS_ok (l : List S110) (hl : l.length ≤ 9223372036854775807) (hx : ∀ x ∈ l, wf110 x) : Sz (fun a k => laws_szSymS.f k l a) (l.length ≤ 1048576 ∧ ∀ x ∈ l, smSym x) := by
  intro a h0 h1
  unfold laws_szSymS.f
  dsimp only
  rw [w64 (by omega) (by omega)]
  by_cases h : a - (l.length : Int) < 0
  · exact ⟨-1, Ev.just (fun k => by rw [if_pos h]), by omega, fun h => by omega⟩
  · simp only [if_neg h]
    obtain ⟨r, e, hr, hq⟩ := Sz.loop (fun k a i => laws_szSymS.l0 k l a i) l.length (fun i => smSym (l.getD i z110)) (by omega) (fun a => Ev.done (fun k => by simp only [laws_szSymS.l0]; rw [if_neg (by omega)])) (fun i a hi h0 h1 => by
      obtain ⟨r, e, hra, hrq⟩ := szSym_ok _ (hx _ (getD_mem l z110 hi)) a h0 h1
      have hrd : (rd_T110 l (i : Int)) = l.getD i z110 := rfl
      by_cases hneg : r < 0
      · refine ⟨-1, by omega, .inl ⟨by omega, ?_⟩⟩
        refine Ev.step (fun k => by simp only [laws_szSymS.l0]; rw [if_pos (by omega), if_pos (by omega), hrd]) ?_
        refine Ev.bind e ?_
        exact Ev.just (fun k => if_pos hneg)
      · refine ⟨r, hra, .inr ⟨by omega, hrq (by omega), fun q eq => ?_⟩⟩
        refine Ev.step (fun k => by simp only [laws_szSymS.l0]; rw [if_pos (by omega), if_pos (by omega), hrd]) ?_
        refine Ev.bind e ?_
        exact Ev.same eq (fun k => if_neg hneg)) (a - l.length) (by omega) (by omega)
    refine ⟨r, e, by omega, fun h => ⟨by omega, fun y hy => ?_⟩⟩
    obtain ⟨i, hi, rfl⟩ := List.mem_iff_getElem.1 hy
    have := hq h i hi
    simpa [List.getD, hi] using this
/-! Alt -/
def smAlt (x : S86) : Prop := (x.f0.length ≤ 1048576 ∧ ∀ y ∈ x.f0, smSym y)
theorem szAlt_ok (x : S86) (hx : wf86 x) : Sz (fun a k => laws_szAlt.f k x.f0 a) (smAlt x) := by
  intro a h0 h1
  unfold laws_szAlt.f smAlt
  dsimp only
  have hx0 := hx
  obtain ⟨r0, e0, b0, q0⟩ := szSymS_ok x.f0 hx0.1 hx0.2 (a) (by omega) (by omega)
  by_cases c0 : r0 < 0
  · refine ⟨-1, ?_, by omega, fun h => by omega⟩
    refine Ev.bind e0 ?_
    simp only [if_pos c0]
    exact Ev.now _
  have p0 := q0 (by omega)
  refine ⟨r0, ?_, by omega, fun _ => p0⟩
  refine Ev.bind e0 ?_
  simp only [if_neg c0]
  exact Ev.now _
theorem szAltS_ok (l : List S86) (hl : l.length ≤ 9223372036854775807) (hx : ∀ x ∈ l, wf86 x) : Sz (fun a k => laws_szAltS.f k l a) (l.length ≤ 1048576 ∧ ∀ x ∈ l, smAlt x) := by
  intro a h0 h1
  unfold laws_szAltS.f
  dsimp only
  rw [w64 (by omega) (by omega)]
  by_cases h : a - (l.length : Int) < 0
  · exact ⟨-1, Ev.just (fun k => by rw [if_pos h]), by omega, fun h => by omega⟩
  · simp only [if_neg h]
    obtain ⟨r, e, hr, hq⟩ := Sz.loop (fun k a i => laws_szAltS.l0 k l a i) l.length (fun i => smAlt (l.getD i z86)) (by omega) (fun a => Ev.done (fun k => by simp only [laws_szAltS.l0]; rw [if_neg (by omega)])) (fun i a hi h0 h1 => by
      obtain ⟨r, e, hra, hrq⟩ := szAlt_ok _ (hx _ (getD_mem l z86 hi)) a h0 h1
      have hrd : (rd_T86 l (i : Int)) = l.getD i z86 := rfl
      by_cases hneg : r < 0
      · refine ⟨-1, by omega, .inl ⟨by omega, ?_⟩⟩
        refine Ev.step (fun k => by simp only [laws_szAltS.l0]; rw [if_pos (by omega), if_pos (by omega), hrd]) ?_
        refine Ev.bind e ?_
        exact Ev.just (fun k => if_pos hneg)
      · refine ⟨r, hra, .inr ⟨by omega, hrq (by omega), fun q eq => ?_⟩⟩
        refine Ev.step (fun k => by simp only [laws_szAltS.l0]; rw [if_pos (by omega), if_pos (by omega), hrd]) ?_
        refine Ev.bind e ?_
        exact Ev.same eq (fun k => if_neg hneg)) (a - l.length) (by omega) (by omega)
    refine ⟨r, e, by omega, fun h => ⟨by omega, fun y hy => ?_⟩⟩
    obtain ⟨i, hi, rfl⟩ := List.mem_iff_getElem.1 hy
    have := hq h i hi
    simpa [List.getD, hi] using this
/-! Rule -/
def smRule (x : S58) : Prop := (x.f0.size ≤ 1048576) ∧ (x.f1.length ≤ 1048576 ∧ ∀ s ∈ x.f1, s.size ≤ 1048576) ∧ (x.f2.length ≤ 1048576 ∧ ∀ y ∈ x.f2, smAlt y)
theorem szRule_ok (x : S58) (hx : wf58 x) : Sz (fun a k => laws_szRule.f k x.f0 x.f1 x.f2 a) (smRule x) := by
  intro a h0 h1
  unfold laws_szRule.f smRule
  dsimp only
  obtain ⟨hx0, hx1, hx2⟩ := hx
  have hy0 : x.f0.size ≤ 9223372036854775807 := hx0
  have w0 : wrap64 (a - (x.f0.size : Int)) = a - (x.f0.size : Int) := w64 (by omega) (by omega)
  by_cases c0 : a - (x.f0.size : Int) < 0
  · refine ⟨-1, ?_, by omega, fun h => by omega⟩
    simp only [w0, if_pos c0]
    exact Ev.now _
  obtain ⟨r1, e1, b1, q1⟩ := szStringS_ok x.f1 hx1.1 hx1.2 (a - (x.f0.size : Int)) (by omega) (by omega)
  by_cases c1 : r1 < 0
  · refine ⟨-1, ?_, by omega, fun h => by omega⟩
    simp only [w0, if_neg c0]
    refine Ev.bind e1 ?_
    simp only [if_pos c1]
    exact Ev.now _
  have p1 := q1 (by omega)
  obtain ⟨r2, e2, b2, q2⟩ := szAltS_ok x.f2 hx2.1 hx2.2 (r1) (by omega) (by omega)
  by_cases c2 : r2 < 0
  · refine ⟨-1, ?_, by omega, fun h => by omega⟩
    simp only [w0, if_neg c0]
    refine Ev.bind e1 ?_
    simp only [if_neg c1]
    refine Ev.bind e2 ?_
    simp only [if_pos c2]
    exact Ev.now _
  have p2 := q2 (by omega)
  refine ⟨r2, ?_, by omega, fun _ => ⟨by omega, p1, p2⟩⟩
  simp only [w0, if_neg c0]
  refine Ev.bind e1 ?_
  simp only [if_neg c1]
  refine Ev.bind e2 ?_
  simp only [if_neg c2]
  exact Ev.now _
theorem szRuleS_ok (l : List S58) (hl : l.length ≤ 9223372036854775807) (hx : ∀ x ∈ l, wf58 x) : Sz (fun a k => laws_szRuleS.f k l a) (l.length ≤ 1048576 ∧ ∀ x ∈ l, smRule x) := by
  intro a h0 h1
  unfold laws_szRuleS.f
  dsimp only
  rw [w64 (by omega) (by omega)]
  by_cases h : a - (l.length : Int) < 0
  · exact ⟨-1, Ev.just (fun k => by rw [if_pos h]), by omega, fun h => by omega⟩
  · simp only [if_neg h]
    obtain ⟨r, e, hr, hq⟩ := Sz.loop (fun k a i => laws_szRuleS.l0 k l a i) l.length (fun i => smRule (l.getD i z58)) (by omega) (fun a => Ev.done (fun k => by simp only [laws_szRuleS.l0]; rw [if_neg (by omega)])) (fun i a hi h0 h1 => by
      obtain ⟨r, e, hra, hrq⟩ := szRule_ok _ (hx _ (getD_mem l z58 hi)) a h0 h1
      have hrd : (rd_T58 l (i : Int)) = l.getD i z58 := rfl
      by_cases hneg : r < 0
      · refine ⟨-1, by omega, .inl ⟨by omega, ?_⟩⟩
        refine Ev.step (fun k => by simp only [laws_szRuleS.l0]; rw [if_pos (by omega), if_pos (by omega), hrd]) ?_
        refine Ev.bind e ?_
        exact Ev.just (fun k => if_pos hneg)
      · refine ⟨r, hra, .inr ⟨by omega, hrq (by omega), fun q eq => ?_⟩⟩
        refine Ev.step (fun k => by simp only [laws_szRuleS.l0]; rw [if_pos (by omega), if_pos (by omega), hrd]) ?_
        refine Ev.bind e ?_
        exact Ev.same eq (fun k => if_neg hneg)) (a - l.length) (by omega) (by omega)
    refine ⟨r, e, by omega, fun h => ⟨by omega, fun y hy => ?_⟩⟩
    obtain ⟨i, hi, rfl⟩ := List.mem_iff_getElem.1 hy
    have := hq h i hi
    simpa [List.getD, hi] using this
/-! Grammar -/
theorem szGrammar_ok (f0 : List (S58)) (hx0 : f0.length ≤ 9223372036854775807 ∧ ∀ x ∈ f0, wf58 x) : Sz (fun a k => laws_szGrammar.f k f0 a) ((f0.length ≤ 1048576 ∧ ∀ y ∈ f0, smRule y)) := by
  intro a h0 h1
  unfold laws_szGrammar.f
  dsimp only
  obtain ⟨r0, e0, b0, q0⟩ := szRuleS_ok f0 hx0.1 hx0.2 (a) (by omega) (by omega)
  by_cases c0 : r0 < 0
  · refine ⟨-1, ?_, by omega, fun h => by omega⟩
    refine Ev.bind e0 ?_
    simp only [if_pos c0]
    exact Ev.now _
  have p0 := q0 (by omega)
  refine ⟨r0, ?_, by omega, fun _ => p0⟩
  refine Ev.bind e0 ?_
  simp only [if_neg c0]
  exact Ev.now _
theorem toIntS_ok (l : List Int) (hl : l.length ≤ 1048576) : Ev (fun k => laws_toIntS.f k l) l := by
  unfold laws_toIntS.f
  have e0 : (0 : Int) ≤ (l.length : Int) := by omega
  have e1 : ((l.length : Int)).toNat ≤ 35184372088832 := by omega
  simp only [if_pos e0, if_pos e1]
  have hz : ((l.length : Int)).toNat = l.length := by omega
  rw [hz]
  have := fill (fun k xs i => laws_toIntS.l0 k l xs i) l.length (fun i => l.getD i 0) (by omega) (fun xs hxs => Ev.done (fun k => by simp only [laws_toIntS.l0]; rw [if_neg (by omega)])) (fun xs i r hi hxs e => by
    refine Ev.next e (fun k => ?_)
    simp only [laws_toIntS.l0]
    rw [if_pos (by omega), if_pos (by omega), if_pos (by omega)]
    rfl) (List.replicate l.length 0) (by simp)
  have hm := map_range l 0 (fun x => x)
  rw [List.map_id'] at hm
  rw [hm] at this
  exact this
theorem toStringS_ok (l : List ByteArray) (hl : l.length ≤ 1048576) : Ev (fun k => laws_toStringS.f k l) l := by
  unfold laws_toStringS.f
  have e0 : (0 : Int) ≤ (l.length : Int) := by omega
  have e1 : ((l.length : Int)).toNat ≤ 17592186044416 := by omega
  simp only [if_pos e0, if_pos e1]
  have hz : ((l.length : Int)).toNat = l.length := by omega
  rw [hz]
  have := fill (fun k xs i => laws_toStringS.l0 k l xs i) l.length (fun i => l.getD i ByteArray.empty) (by omega) (fun xs hxs => Ev.done (fun k => by simp only [laws_toStringS.l0]; rw [if_neg (by omega)])) (fun xs i r hi hxs e => by
    refine Ev.next e (fun k => ?_)
    simp only [laws_toStringS.l0]
    rw [if_pos (by omega), if_pos (by omega), if_pos (by omega)]
    rfl) (List.replicate l.length (⟨#[]⟩ : ByteArray)) (by simp)
  have hm := map_range l ByteArray.empty (fun x => x)
  rw [List.map_id'] at hm
  rw [hm] at this
  exact this
def cvExNode (x : S130) : S115 := ⟨x.f0, x.f1, x.f2, x.f3⟩
theorem toExNode_ok (x : S130) (hx : smExNode x) : Ev (fun k => laws_toExNode.f k x.f0 x.f1 x.f2 x.f3) ((cvExNode x).f0, (cvExNode x).f1, (cvExNode x).f2, (cvExNode x).f3) := by
  unfold laws_toExNode.f
  unfold smExNode at hx
  refine Ev.bind (toIntS_ok x.f3 hx.2) ?_
  exact Ev.just (fun k => rfl)
theorem toExNodeS_ok (l : List S130) (hl : l.length ≤ 1048576) (hx : ∀ x ∈ l, smExNode x) : Ev (fun k => laws_toExNodeS.f k l) (l.map cvExNode) := by
  unfold laws_toExNodeS.f
  have e0 : (0 : Int) ≤ (l.length : Int) := by omega
  have e1 : ((l.length : Int)).toNat ≤ 5026338869833 := by omega
  simp only [if_pos e0, if_pos e1]
  have hz : ((l.length : Int)).toNat = l.length := by omega
  rw [hz]
  have := fill (fun k xs i => laws_toExNodeS.l0 k l xs i) l.length (fun i => cvExNode (l.getD i z130)) (by omega) (fun xs hxs => Ev.done (fun k => by simp only [laws_toExNodeS.l0]; rw [if_neg (by omega)])) (fun xs i r hi hxs e => by
    refine Ev.step (fun k => by simp only [laws_toExNodeS.l0]; rw [if_pos (by omega), if_pos (by omega)]) ?_
    refine Ev.bind (toExNode_ok (l.getD i z130) (hx _ (getD_mem l _ hi))) ?_
    exact Ev.same e (fun k => if_pos (by omega))) (List.replicate l.length z115) (by simp)
  rw [← map_range l z130 cvExNode]
  exact this
def cvExpr (x : S123) : S106 := ⟨x.f0.map cvExNode⟩
theorem toExpr_ok (x : S123) (hx : smExpr x) : Ev (fun k => laws_toExpr.f k x.f0) ((cvExpr x).f0) := by
  unfold laws_toExpr.f
  unfold smExpr at hx
  refine Ev.bind (toExNodeS_ok x.f0 hx.1 hx.2) ?_
  exact Ev.just (fun k => rfl)
theorem toExprS_ok (l : List S123) (hl : l.length ≤ 1048576) (hx : ∀ x ∈ l, smExpr x) : Ev (fun k => laws_toExprS.f k l) (l.map cvExpr) := by
  unfold laws_toExprS.f
  have e0 : (0 : Int) ≤ (l.length : Int) := by omega
  have e1 : ((l.length : Int)).toNat ≤ 11728124029610 := by omega
  simp only [if_pos e0, if_pos e1]
  have hz : ((l.length : Int)).toNat = l.length := by omega
  rw [hz]
  have := fill (fun k xs i => laws_toExprS.l0 k l xs i) l.length (fun i => cvExpr (l.getD i z123)) (by omega) (fun xs hxs => Ev.done (fun k => by simp only [laws_toExprS.l0]; rw [if_neg (by omega)])) (fun xs i r hi hxs e => by
    refine Ev.step (fun k => by simp only [laws_toExprS.l0]; rw [if_pos (by omega), if_pos (by omega)]) ?_
    refine Ev.bind (toExpr_ok (l.getD i z123) (hx _ (getD_mem l _ hi))) ?_
    exact Ev.same e (fun k => if_pos (by omega))) (List.replicate l.length z106) (by simp)
  rw [← map_range l z123 cvExpr]
  exact this
def cvSym (x : S110) : S47 := ⟨x.f0, x.f1, x.f2.map cvExpr, x.f3⟩
theorem toSym_ok (x : S110) (hx : smSym x) : Ev (fun k => laws_toSym.f k x.f0 x.f1 x.f2 x.f3) ((cvSym x).f0, (cvSym x).f1, (cvSym x).f2, (cvSym x).f3) := by
  unfold laws_toSym.f
  unfold smSym at hx
  refine Ev.bind (toExprS_ok x.f2 hx.2.1.1 hx.2.1.2) ?_
  exact Ev.just (fun k => rfl)
theorem toSymS_ok (l : List S110) (hl : l.length ≤ 1048576) (hx : ∀ x ∈ l, smSym x) : Ev (fun k => laws_toSymS.f k l) (l.map cvSym) := by
  unfold laws_toSymS.f
  have e0 : (0 : Int) ≤ (l.length : Int) := by omega
  have e1 : ((l.length : Int)).toNat ≤ 4398046511104 := by omega
  simp only [if_pos e0, if_pos e1]
  have hz : ((l.length : Int)).toNat = l.length := by omega
  rw [hz]
  have := fill (fun k xs i => laws_toSymS.l0 k l xs i) l.length (fun i => cvSym (l.getD i z110)) (by omega) (fun xs hxs => Ev.done (fun k => by simp only [laws_toSymS.l0]; rw [if_neg (by omega)])) (fun xs i r hi hxs e => by
    refine Ev.step (fun k => by simp only [laws_toSymS.l0]; rw [if_pos (by omega), if_pos (by omega)]) ?_
    refine Ev.bind (toSym_ok (l.getD i z110) (hx _ (getD_mem l _ hi))) ?_
    exact Ev.same e (fun k => if_pos (by omega))) (List.replicate l.length z47) (by simp)
  rw [← map_range l z110 cvSym]
  exact this
def cvAlt (x : S86) : S44 := ⟨x.f0.map cvSym⟩
theorem toAlt_ok (x : S86) (hx : smAlt x) : Ev (fun k => laws_toAlt.f k x.f0) ((cvAlt x).f0) := by
  unfold laws_toAlt.f
  unfold smAlt at hx
  refine Ev.bind (toSymS_ok x.f0 hx.1 hx.2) ?_
  exact Ev.just (fun k => rfl)
theorem toAltS_ok (l : List S86) (hl : l.length ≤ 1048576) (hx : ∀ x ∈ l, smAlt x) : Ev (fun k => laws_toAltS.f k l) (l.map cvAlt) := by
  unfold laws_toAltS.f
  have e0 : (0 : Int) ≤ (l.length : Int) := by omega
  have e1 : ((l.length : Int)).toNat ≤ 11728124029610 := by omega
  simp only [if_pos e0, if_pos e1]
  have hz : ((l.length : Int)).toNat = l.length := by omega
  rw [hz]
  have := fill (fun k xs i => laws_toAltS.l0 k l xs i) l.length (fun i => cvAlt (l.getD i z86)) (by omega) (fun xs hxs => Ev.done (fun k => by simp only [laws_toAltS.l0]; rw [if_neg (by omega)])) (fun xs i r hi hxs e => by
    refine Ev.step (fun k => by simp only [laws_toAltS.l0]; rw [if_pos (by omega), if_pos (by omega)]) ?_
    refine Ev.bind (toAlt_ok (l.getD i z86) (hx _ (getD_mem l _ hi))) ?_
    exact Ev.same e (fun k => if_pos (by omega))) (List.replicate l.length z44) (by simp)
  rw [← map_range l z86 cvAlt]
  exact this
def cvRule (x : S58) : S41 := ⟨x.f0, x.f1, x.f2.map cvAlt⟩
theorem toRule_ok (x : S58) (hx : smRule x) : Ev (fun k => laws_toRule.f k x.f0 x.f1 x.f2) ((cvRule x).f0, (cvRule x).f1, (cvRule x).f2) := by
  unfold laws_toRule.f
  unfold smRule at hx
  refine Ev.bind (toStringS_ok x.f1 hx.2.1.1) ?_
  refine Ev.bind (toAltS_ok x.f2 hx.2.2.1 hx.2.2.2) ?_
  exact Ev.just (fun k => rfl)
theorem toRuleS_ok (l : List S58) (hl : l.length ≤ 1048576) (hx : ∀ x ∈ l, smRule x) : Ev (fun k => laws_toRuleS.f k l) (l.map cvRule) := by
  unfold laws_toRuleS.f
  have e0 : (0 : Int) ≤ (l.length : Int) := by omega
  have e1 : ((l.length : Int)).toNat ≤ 4398046511104 := by omega
  simp only [if_pos e0, if_pos e1]
  have hz : ((l.length : Int)).toNat = l.length := by omega
  rw [hz]
  have := fill (fun k xs i => laws_toRuleS.l0 k l xs i) l.length (fun i => cvRule (l.getD i z58)) (by omega) (fun xs hxs => Ev.done (fun k => by simp only [laws_toRuleS.l0]; rw [if_neg (by omega)])) (fun xs i r hi hxs e => by
    refine Ev.step (fun k => by simp only [laws_toRuleS.l0]; rw [if_pos (by omega), if_pos (by omega)]) ?_
    refine Ev.bind (toRule_ok (l.getD i z58) (hx _ (getD_mem l _ hi))) ?_
    exact Ev.same e (fun k => if_pos (by omega))) (List.replicate l.length z41) (by simp)
  rw [← map_range l z58 cvRule]
  exact this
theorem toGrammar_ok (f0 : List (S58)) (hx0 : f0.length ≤ 1048576 ∧ ∀ y ∈ f0, smRule y) : Ev (fun k => laws_toGrammar.f k f0) (f0.map cvRule) := by
  unfold laws_toGrammar.f
  refine Ev.bind (toRuleS_ok f0 hx0.1 hx0.2) ?_
  exact Ev.just (fun k => rfl)
theorem eqIntS_same (l : List Int) (hl : l.length ≤ 4611686018427387904) : Ev (fun k => laws_eqIntS.f k l l) true := by
  unfold laws_eqIntS.f
  simp only [if_true]
  refine scan (fun k i => laws_eqIntS.l0 k l l i) l.length (fun _ => true) (by omega) (Ev.done (fun k => by simp only [laws_eqIntS.l0]; rw [if_neg (by omega)])) (fun i hi e => ?_) 0 (by omega)
  refine Ev.next e (fun k => ?_)
  simp only [laws_eqIntS.l0]
  rw [if_pos (by omega), if_pos (by omega), if_pos (by omega)]
  exact if_pos trivial
theorem eqStringS_same (l : List ByteArray) (hl : l.length ≤ 4611686018427387904) : Ev (fun k => laws_eqStringS.f k l l) true := by
  unfold laws_eqStringS.f
  simp only [if_true]
  refine scan (fun k i => laws_eqStringS.l0 k l l i) l.length (fun _ => true) (by omega) (Ev.done (fun k => by simp only [laws_eqStringS.l0]; rw [if_neg (by omega)])) (fun i hi e => ?_) 0 (by omega)
  refine Ev.next e (fun k => ?_)
  simp only [laws_eqStringS.l0]
  rw [if_pos (by omega), if_pos (by omega), if_pos (by omega)]
  exact if_pos trivial
def leExNode (x : S115) : Prop := (x.f3.length ≤ 4611686018427387904)
theorem eqExNode_same (x : S115) (hx : leExNode x) : Ev (fun k => laws_eqExNode.f k x.f0 x.f1 x.f2 x.f3 x.f0 x.f1 x.f2 x.f3) true := by
  unfold laws_eqExNode.f
  unfold leExNode at hx
  simp only [if_true, bne_self_eq_false, Bool.false_eq_true, if_false]
  refine Ev.bind (eqIntS_same x.f3 hx) ?_
  simp only [if_true, bne_self_eq_false, Bool.false_eq_true, if_false]
  exact Ev.now _
theorem eqExNodeS_same (l : List S115) (hl : l.length ≤ 4611686018427387904) (hx : ∀ x ∈ l, leExNode x) : Ev (fun k => laws_eqExNodeS.f k l l) true := by
  unfold laws_eqExNodeS.f
  simp only [if_true]
  refine scan (fun k i => laws_eqExNodeS.l0 k l l i) l.length (fun _ => true) (by omega) (Ev.done (fun k => by simp only [laws_eqExNodeS.l0]; rw [if_neg (by omega)])) (fun i hi e => ?_) 0 (by omega)
  refine Ev.step (fun k => by simp only [laws_eqExNodeS.l0]; rw [if_pos (by omega), if_pos (by omega), if_pos (by omega)]) ?_
  refine Ev.bind (eqExNode_same _ (hx _ (getD_mem l z115 hi))) ?_
  exact Ev.same e (fun k => if_pos rfl)
def leExpr (x : S106) : Prop := (x.f0.length ≤ 4611686018427387904 ∧ ∀ y ∈ x.f0, leExNode y)
theorem eqExpr_same (x : S106) (hx : leExpr x) : Ev (fun k => laws_eqExpr.f k x.f0 x.f0) true := by
  unfold laws_eqExpr.f
  unfold leExpr at hx
  refine Ev.bind (eqExNodeS_same x.f0 hx.1 hx.2) ?_
  simp only [if_true, bne_self_eq_false, Bool.false_eq_true, if_false]
  exact Ev.now _
theorem eqExprS_same (l : List S106) (hl : l.length ≤ 4611686018427387904) (hx : ∀ x ∈ l, leExpr x) : Ev (fun k => laws_eqExprS.f k l l) true := by
  unfold laws_eqExprS.f
  simp only [if_true]
  refine scan (fun k i => laws_eqExprS.l0 k l l i) l.length (fun _ => true) (by omega) (Ev.done (fun k => by simp only [laws_eqExprS.l0]; rw [if_neg (by omega)])) (fun i hi e => ?_) 0 (by omega)
  refine Ev.step (fun k => by simp only [laws_eqExprS.l0]; rw [if_pos (by omega), if_pos (by omega), if_pos (by omega)]) ?_
  refine Ev.bind (eqExpr_same _ (hx _ (getD_mem l z106 hi))) ?_
  exact Ev.same e (fun k => if_pos rfl)
def leSym (x : S47) : Prop := (x.f2.length ≤ 4611686018427387904 ∧ ∀ y ∈ x.f2, leExpr y)
theorem eqSym_same (x : S47) (hx : leSym x) : Ev (fun k => laws_eqSym.f k x.f0 x.f1 x.f2 x.f3 x.f0 x.f1 x.f2 x.f3) true := by
  unfold laws_eqSym.f
  unfold leSym at hx
  simp only [if_true, bne_self_eq_false, Bool.false_eq_true, if_false]
  refine Ev.bind (eqExprS_same x.f2 hx.1 hx.2) ?_
  simp only [if_true, bne_self_eq_false, Bool.false_eq_true, if_false]
  exact Ev.now _
theorem eqSymS_same (l : List S47) (hl : l.length ≤ 4611686018427387904) (hx : ∀ x ∈ l, leSym x) : Ev (fun k => laws_eqSymS.f k l l) true := by
  unfold laws_eqSymS.f
  simp only [if_true]
  refine scan (fun k i => laws_eqSymS.l0 k l l i) l.length (fun _ => true) (by omega) (Ev.done (fun k => by simp only [laws_eqSymS.l0]; rw [if_neg (by omega)])) (fun i hi e => ?_) 0 (by omega)
  refine Ev.step (fun k => by simp only [laws_eqSymS.l0]; rw [if_pos (by omega), if_pos (by omega), if_pos (by omega)]) ?_
  refine Ev.bind (eqSym_same _ (hx _ (getD_mem l z47 hi))) ?_
  exact Ev.same e (fun k => if_pos rfl)
def leAlt (x : S44) : Prop := (x.f0.length ≤ 4611686018427387904 ∧ ∀ y ∈ x.f0, leSym y)
theorem eqAlt_same (x : S44) (hx : leAlt x) : Ev (fun k => laws_eqAlt.f k x.f0 x.f0) true := by
  unfold laws_eqAlt.f
  unfold leAlt at hx
  refine Ev.bind (eqSymS_same x.f0 hx.1 hx.2) ?_
  simp only [if_true, bne_self_eq_false, Bool.false_eq_true, if_false]
  exact Ev.now _
theorem eqAltS_same (l : List S44) (hl : l.length ≤ 4611686018427387904) (hx : ∀ x ∈ l, leAlt x) : Ev (fun k => laws_eqAltS.f k l l) true := by
  unfold laws_eqAltS.f
  simp only [if_true]
  refine scan (fun k i => laws_eqAltS.l0 k l l i) l.length (fun _ => true) (by omega) (Ev.done (fun k => by simp only [laws_eqAltS.l0]; rw [if_neg (by omega)])) (fun i hi e => ?_) 0 (by omega)
  refine Ev.step (fun k => by simp only [laws_eqAltS.l0]; rw [if_pos (by omega), if_pos (by omega), if_pos (by omega)]) ?_
  refine Ev.bind (eqAlt_same _ (hx _ (getD_mem l z44 hi))) ?_
  exact Ev.same e (fun k => if_pos rfl)
def leRule (x : S41) : Prop := (x.f1.length ≤ 4611686018427387904) ∧ (x.f2.length ≤ 4611686018427387904 ∧ ∀ y ∈ x.f2, leAlt y)
theorem eqRule_same (x : S41) (hx : leRule x) : Ev (fun k => laws_eqRule.f k x.f0 x.f1 x.f2 x.f0 x.f1 x.f2) true := by
  unfold laws_eqRule.f
  unfold leRule at hx
  simp only [if_true, bne_self_eq_false, Bool.false_eq_true, if_false]
  refine Ev.bind (eqStringS_same x.f1 hx.1) ?_
  simp only [if_true, bne_self_eq_false, Bool.false_eq_true, if_false]
  refine Ev.bind (eqAltS_same x.f2 hx.2.1 hx.2.2) ?_
  simp only [if_true, bne_self_eq_false, Bool.false_eq_true, if_false]
  exact Ev.now _
theorem eqRuleS_same (l : List S41) (hl : l.length ≤ 4611686018427387904) (hx : ∀ x ∈ l, leRule x) : Ev (fun k => laws_eqRuleS.f k l l) true := by
  unfold laws_eqRuleS.f
  simp only [if_true]
  refine scan (fun k i => laws_eqRuleS.l0 k l l i) l.length (fun _ => true) (by omega) (Ev.done (fun k => by simp only [laws_eqRuleS.l0]; rw [if_neg (by omega)])) (fun i hi e => ?_) 0 (by omega)
  refine Ev.step (fun k => by simp only [laws_eqRuleS.l0]; rw [if_pos (by omega), if_pos (by omega), if_pos (by omega)]) ?_
  refine Ev.bind (eqRule_same _ (hx _ (getD_mem l z41 hi))) ?_
  exact Ev.same e (fun k => if_pos rfl)
def leGrammar (x : S30) : Prop := (x.f0.length ≤ 4611686018427387904 ∧ ∀ y ∈ x.f0, leRule y)
theorem eqGrammar_same (x : S30) (hx : leGrammar x) : Ev (fun k => laws_eqGrammar.f k x.f0 x.f0) true := by
  unfold laws_eqGrammar.f
  unfold leGrammar at hx
  refine Ev.bind (eqRuleS_same x.f0 hx.1 hx.2) ?_
  simp only [if_true, bne_self_eq_false, Bool.false_eq_true, if_false]
  exact Ev.now _
end Go.Proofs.Ythnokfmpogekoaa.EFnExactCallsOf
