/- What the law's own helpers of FnExactCountForest come to: sizes, turned arguments, equality of the same. No condition. Written by a program of this session. -/
import Derived.Test.YtlkbdoejeomlmaaPFnExactCountForestx8
import Derived.Test.YtlkbdoejeomlmaaPl
import Derived.Test.YtlkbdoejeomlmaaSFnExactCountForest
namespace Go.Proofs.Ytlkbdoejeomlmaa.EFnExactCountForest
open Go.RowKit Go.Proofs.Ytlkbdoejeomlmaa.PFnExactCountForest Go.Proofs.Ytlkbdoejeomlmaa.SFnExactCountForest Go.Proofs.YtlkbdoejeomlmaaPl Go.Proofs.YtlkbdoejeomlmaaW.PrintWords Go.Proofs.YtlkbdoejeomlmaaW.PrintLast
set_option linter.unusedVariables false
set_option linter.unusedSimpArgs false
theorem szIntS_ok (l : List Int) (hl : l.length ≤ 9223372036854775807) : Sz (fun a k => laws_szIntS.f l a) (l.length ≤ 1048576) := by
  intro a h0 h1
  unfold laws_szIntS.f
  dsimp only
  rw [w64 (by omega) (by omega)]
  by_cases h : a - (l.length : Int) < 0
  · exact ⟨-1, Ev.just (fun k => by rw [if_pos h]), by omega, fun h => by omega⟩
  · exact ⟨a - l.length, Ev.just (fun k => by rw [if_neg h]), by omega, fun _ => by omega⟩
/-! Way -/
def smWay (x : S255) : Prop := (x.f1.length ≤ 1048576)
theorem szWay_ok (x : S255) (hx : wf255 x) : Sz (fun a k => laws_szWay.f x.f0 x.f1 a) (smWay x) := by
  intro a h0 h1
  unfold laws_szWay.f smWay
  dsimp only
  obtain ⟨hx0, hx1⟩ := hx
  obtain ⟨r1, e1, b1, q1⟩ := szIntS_ok x.f1 hx1.1 (a) (by omega) (by omega)
  by_cases c1 : r1 < 0
  · refine ⟨-1, ?_, by omega, fun h => by omega⟩
    refine Ev.bind e1 ?_
    simp only [if_pos c1]
    exact Ev.now _
  have p1 := q1 (by omega)
  refine ⟨r1, ?_, by omega, fun _ => p1⟩
  refine Ev.bind e1 ?_
  simp only [if_neg c1]
  exact Ev.now _
theorem szWayS_ok (l : List S255) (hl : l.length ≤ 9223372036854775807) (hx : ∀ x ∈ l, wf255 x) : Sz (fun a k => laws_szWayS.f k l a) (l.length ≤ 1048576 ∧ ∀ x ∈ l, smWay x) := by
  intro a h0 h1
  unfold laws_szWayS.f
  dsimp only
  rw [w64 (by omega) (by omega)]
  by_cases h : a - (l.length : Int) < 0
  · exact ⟨-1, Ev.just (fun k => by rw [if_pos h]), by omega, fun h => by omega⟩
  · simp only [if_neg h]
    obtain ⟨r, e, hr, hq⟩ := Sz.loop (fun k a i => laws_szWayS.l0 k l a i) l.length (fun i => smWay (l.getD i z255)) (by omega) (fun a => Ev.done (fun k => by simp only [laws_szWayS.l0]; rw [if_neg (by omega)])) (fun i a hi h0 h1 => by
      obtain ⟨r, e, hra, hrq⟩ := szWay_ok _ (hx _ (getD_mem l z255 hi)) a h0 h1
      have hrd : (rd_T255 l (i : Int)) = l.getD i z255 := rfl
      by_cases hneg : r < 0
      · refine ⟨-1, by omega, .inl ⟨by omega, ?_⟩⟩
        refine Ev.step (fun k => by simp only [laws_szWayS.l0]; rw [if_pos (by omega), if_pos (by omega), hrd]) ?_
        refine Ev.bind e ?_
        exact Ev.just (fun k => if_pos hneg)
      · refine ⟨r, hra, .inr ⟨by omega, hrq (by omega), fun q eq => ?_⟩⟩
        refine Ev.step (fun k => by simp only [laws_szWayS.l0]; rw [if_pos (by omega), if_pos (by omega), hrd]) ?_
        refine Ev.bind e ?_
        exact Ev.same eq (fun k => if_neg hneg)) (a - l.length) (by omega) (by omega)
    refine ⟨r, e, by omega, fun h => ⟨by omega, fun y hy => ?_⟩⟩
    obtain ⟨i, hi, rfl⟩ := List.mem_iff_getElem.1 hy
    have := hq h i hi
    simpa [List.getD, hi] using this
/-! Part -/
def smPart (x : S199) : Prop := (x.f1.length ≤ 1048576) ∧ (x.f4.length ≤ 1048576 ∧ ∀ y ∈ x.f4, smWay y)
theorem szPart_ok (x : S199) (hx : wf199 x) : Sz (fun a k => laws_szPart.f k x.f0 x.f1 x.f2 x.f3 x.f4 a) (smPart x) := by
  intro a h0 h1
  unfold laws_szPart.f smPart
  dsimp only
  obtain ⟨hx0, hx1, hx2, hx3, hx4⟩ := hx
  obtain ⟨r1, e1, b1, q1⟩ := szIntS_ok x.f1 hx1.1 (a) (by omega) (by omega)
  by_cases c1 : r1 < 0
  · refine ⟨-1, ?_, by omega, fun h => by omega⟩
    refine Ev.bind e1 ?_
    simp only [if_pos c1]
    exact Ev.now _
  have p1 := q1 (by omega)
  obtain ⟨r4, e4, b4, q4⟩ := szWayS_ok x.f4 hx4.1 hx4.2 (r1) (by omega) (by omega)
  by_cases c4 : r4 < 0
  · refine ⟨-1, ?_, by omega, fun h => by omega⟩
    refine Ev.bind e1 ?_
    simp only [if_neg c1]
    refine Ev.bind e4 ?_
    simp only [if_pos c4]
    exact Ev.now _
  have p4 := q4 (by omega)
  refine ⟨r4, ?_, by omega, fun _ => ⟨p1, p4⟩⟩
  refine Ev.bind e1 ?_
  simp only [if_neg c1]
  refine Ev.bind e4 ?_
  simp only [if_neg c4]
  exact Ev.now _
theorem szPartS_ok (l : List S199) (hl : l.length ≤ 9223372036854775807) (hx : ∀ x ∈ l, wf199 x) : Sz (fun a k => laws_szPartS.f k l a) (l.length ≤ 1048576 ∧ ∀ x ∈ l, smPart x) := by
  intro a h0 h1
  unfold laws_szPartS.f
  dsimp only
  rw [w64 (by omega) (by omega)]
  by_cases h : a - (l.length : Int) < 0
  · exact ⟨-1, Ev.just (fun k => by rw [if_pos h]), by omega, fun h => by omega⟩
  · simp only [if_neg h]
    obtain ⟨r, e, hr, hq⟩ := Sz.loop (fun k a i => laws_szPartS.l0 k l a i) l.length (fun i => smPart (l.getD i z199)) (by omega) (fun a => Ev.done (fun k => by simp only [laws_szPartS.l0]; rw [if_neg (by omega)])) (fun i a hi h0 h1 => by
      obtain ⟨r, e, hra, hrq⟩ := szPart_ok _ (hx _ (getD_mem l z199 hi)) a h0 h1
      have hrd : (rd_T199 l (i : Int)) = l.getD i z199 := rfl
      by_cases hneg : r < 0
      · refine ⟨-1, by omega, .inl ⟨by omega, ?_⟩⟩
        refine Ev.step (fun k => by simp only [laws_szPartS.l0]; rw [if_pos (by omega), if_pos (by omega), hrd]) ?_
        refine Ev.bind e ?_
        exact Ev.just (fun k => if_pos hneg)
      · refine ⟨r, hra, .inr ⟨by omega, hrq (by omega), fun q eq => ?_⟩⟩
        refine Ev.step (fun k => by simp only [laws_szPartS.l0]; rw [if_pos (by omega), if_pos (by omega), hrd]) ?_
        refine Ev.bind e ?_
        exact Ev.same eq (fun k => if_neg hneg)) (a - l.length) (by omega) (by omega)
    refine ⟨r, e, by omega, fun h => ⟨by omega, fun y hy => ?_⟩⟩
    obtain ⟨i, hi, rfl⟩ := List.mem_iff_getElem.1 hy
    have := hq h i hi
    simpa [List.getD, hi] using this
/-! Forest -/
theorem szForest_ok (f0 : List (S199)) (hx0 : f0.length ≤ 9223372036854775807 ∧ ∀ x ∈ f0, wf199 x) : Sz (fun a k => laws_szForest.f k f0 a) ((f0.length ≤ 1048576 ∧ ∀ y ∈ f0, smPart y)) := by
  intro a h0 h1
  unfold laws_szForest.f
  dsimp only
  obtain ⟨r0, e0, b0, q0⟩ := szPartS_ok f0 hx0.1 hx0.2 (a) (by omega) (by omega)
  by_cases c0 : r0 < 0
  · refine ⟨-1, ?_, by omega, fun h => by omega⟩
    refine Ev.bind e0 ?_
    simp only [if_pos c0]
    exact Ev.now _
  have p0 := q0 (by omega)
  refine ⟨r0, ?_, by omega, fun _ => p0⟩
  refine Ev.bind e0 ?_
  simp only [if_neg c0]
  exact Ev.now _
theorem toIntS_ok (l : List Int) (hl : l.length ≤ 1048576) : Ev (fun k => laws_toIntS.f k l) l := by
  unfold laws_toIntS.f
  have e0 : (0 : Int) ≤ (l.length : Int) := by omega
  have e1 : ((l.length : Int)).toNat ≤ 35184372088832 := by omega
  simp only [if_pos e0, if_pos e1]
  have hz : ((l.length : Int)).toNat = l.length := by omega
  rw [hz]
  have := fill (fun k xs i => laws_toIntS.l0 k l xs i) l.length (fun i => l.getD i 0) (by omega) (fun xs hxs => Ev.done (fun k => by simp only [laws_toIntS.l0]; rw [if_neg (by omega)])) (fun xs i r hi hxs e => by
    refine Ev.next e (fun k => ?_)
    simp only [laws_toIntS.l0]
    rw [if_pos (by omega), if_pos (by omega), if_pos (by omega)]
    rfl) (List.replicate l.length 0) (by simp)
  have hm := map_range l 0 (fun x => x)
  rw [List.map_id'] at hm
  rw [hm] at this
  exact this
def cvWay (x : S255) : S131 := ⟨x.f0, x.f1⟩
theorem toWay_ok (x : S255) (hx : smWay x) : Ev (fun k => laws_toWay.f k x.f0 x.f1) ((cvWay x).f0, (cvWay x).f1) := by
  unfold laws_toWay.f
  unfold smWay at hx
  refine Ev.bind (toIntS_ok x.f1 hx) ?_
  exact Ev.just (fun k => rfl)
theorem toWayS_ok (l : List S255) (hl : l.length ≤ 1048576) (hx : ∀ x ∈ l, smWay x) : Ev (fun k => laws_toWayS.f k l) (l.map cvWay) := by
  unfold laws_toWayS.f
  have e0 : (0 : Int) ≤ (l.length : Int) := by omega
  have e1 : ((l.length : Int)).toNat ≤ 8796093022208 := by omega
  simp only [if_pos e0, if_pos e1]
  have hz : ((l.length : Int)).toNat = l.length := by omega
  rw [hz]
  have := fill (fun k xs i => laws_toWayS.l0 k l xs i) l.length (fun i => cvWay (l.getD i z255)) (by omega) (fun xs hxs => Ev.done (fun k => by simp only [laws_toWayS.l0]; rw [if_neg (by omega)])) (fun xs i r hi hxs e => by
    refine Ev.step (fun k => by simp only [laws_toWayS.l0]; rw [if_pos (by omega), if_pos (by omega)]) ?_
    refine Ev.bind (toWay_ok (l.getD i z255) (hx _ (getD_mem l _ hi))) ?_
    exact Ev.same e (fun k => if_pos (by omega))) (List.replicate l.length z131) (by simp)
  rw [← map_range l z255 cvWay]
  exact this
def cvPart (x : S199) : S118 := ⟨x.f0, x.f1, x.f2, x.f3, x.f4.map cvWay⟩
theorem toPart_ok (x : S199) (hx : smPart x) : Ev (fun k => laws_toPart.f k x.f0 x.f1 x.f2 x.f3 x.f4) ((cvPart x).f0, (cvPart x).f1, (cvPart x).f2, (cvPart x).f3, (cvPart x).f4) := by
  unfold laws_toPart.f
  unfold smPart at hx
  refine Ev.bind (toIntS_ok x.f1 hx.1) ?_
  refine Ev.bind (toWayS_ok x.f4 hx.2.1 hx.2.2) ?_
  exact Ev.just (fun k => rfl)
theorem toPartS_ok (l : List S199) (hl : l.length ≤ 1048576) (hx : ∀ x ∈ l, smPart x) : Ev (fun k => laws_toPartS.f k l) (l.map cvPart) := by
  unfold laws_toPartS.f
  have e0 : (0 : Int) ≤ (l.length : Int) := by omega
  have e1 : ((l.length : Int)).toNat ≤ 3909374676536 := by omega
  simp only [if_pos e0, if_pos e1]
  have hz : ((l.length : Int)).toNat = l.length := by omega
  rw [hz]
  have := fill (fun k xs i => laws_toPartS.l0 k l xs i) l.length (fun i => cvPart (l.getD i z199)) (by omega) (fun xs hxs => Ev.done (fun k => by simp only [laws_toPartS.l0]; rw [if_neg (by omega)])) (fun xs i r hi hxs e => by
    refine Ev.step (fun k => by simp only [laws_toPartS.l0]; rw [if_pos (by omega), if_pos (by omega)]) ?_
    refine Ev.bind (toPart_ok (l.getD i z199) (hx _ (getD_mem l _ hi))) ?_
    exact Ev.same e (fun k => if_pos (by omega))) (List.replicate l.length z118) (by simp)
  rw [← map_range l z199 cvPart]
  exact this
theorem toForest_ok (f0 : List (S199)) (hx0 : f0.length ≤ 1048576 ∧ ∀ y ∈ f0, smPart y) : Ev (fun k => laws_toForest.f k f0) (f0.map cvPart) := by
  unfold laws_toForest.f
  refine Ev.bind (toPartS_ok f0 hx0.1 hx0.2) ?_
  exact Ev.just (fun k => rfl)
theorem eqIntS_same (l : List Int) (hl : l.length ≤ 4611686018427387904) : Ev (fun k => laws_eqIntS.f k l l) true := by
  unfold laws_eqIntS.f
  simp only [if_true]
  refine scan (fun k i => laws_eqIntS.l0 k l l i) l.length (fun _ => true) (by omega) (Ev.done (fun k => by simp only [laws_eqIntS.l0]; rw [if_neg (by omega)])) (fun i hi e => ?_) 0 (by omega)
  refine Ev.next e (fun k => ?_)
  simp only [laws_eqIntS.l0]
  rw [if_pos (by omega), if_pos (by omega), if_pos (by omega)]
  exact if_pos trivial
def leWay (x : S131) : Prop := (x.f1.length ≤ 4611686018427387904)
theorem eqWay_same (x : S131) (hx : leWay x) : Ev (fun k => laws_eqWay.f k x.f0 x.f1 x.f0 x.f1) true := by
  unfold laws_eqWay.f
  unfold leWay at hx
  simp only [if_true, bne_self_eq_false, Bool.false_eq_true, if_false]
  refine Ev.bind (eqIntS_same x.f1 hx) ?_
  simp only [if_true, bne_self_eq_false, Bool.false_eq_true, if_false]
  exact Ev.now _
theorem eqWayS_same (l : List S131) (hl : l.length ≤ 4611686018427387904) (hx : ∀ x ∈ l, leWay x) : Ev (fun k => laws_eqWayS.f k l l) true := by
  unfold laws_eqWayS.f
  simp only [if_true]
  refine scan (fun k i => laws_eqWayS.l0 k l l i) l.length (fun _ => true) (by omega) (Ev.done (fun k => by simp only [laws_eqWayS.l0]; rw [if_neg (by omega)])) (fun i hi e => ?_) 0 (by omega)
  refine Ev.step (fun k => by simp only [laws_eqWayS.l0]; rw [if_pos (by omega), if_pos (by omega), if_pos (by omega)]) ?_
  refine Ev.bind (eqWay_same _ (hx _ (getD_mem l z131 hi))) ?_
  exact Ev.same e (fun k => if_pos rfl)
def lePart (x : S118) : Prop := (x.f1.length ≤ 4611686018427387904) ∧ (x.f4.length ≤ 4611686018427387904 ∧ ∀ y ∈ x.f4, leWay y)
theorem eqPart_same (x : S118) (hx : lePart x) : Ev (fun k => laws_eqPart.f k x.f0 x.f1 x.f2 x.f3 x.f4 x.f0 x.f1 x.f2 x.f3 x.f4) true := by
  unfold laws_eqPart.f
  unfold lePart at hx
  simp only [if_true, bne_self_eq_false, Bool.false_eq_true, if_false]
  refine Ev.bind (eqIntS_same x.f1 hx.1) ?_
  simp only [if_true, bne_self_eq_false, Bool.false_eq_true, if_false]
  refine Ev.bind (eqWayS_same x.f4 hx.2.1 hx.2.2) ?_
  simp only [if_true, bne_self_eq_false, Bool.false_eq_true, if_false]
  exact Ev.now _
theorem eqPartS_same (l : List S118) (hl : l.length ≤ 4611686018427387904) (hx : ∀ x ∈ l, lePart x) : Ev (fun k => laws_eqPartS.f k l l) true := by
  unfold laws_eqPartS.f
  simp only [if_true]
  refine scan (fun k i => laws_eqPartS.l0 k l l i) l.length (fun _ => true) (by omega) (Ev.done (fun k => by simp only [laws_eqPartS.l0]; rw [if_neg (by omega)])) (fun i hi e => ?_) 0 (by omega)
  refine Ev.step (fun k => by simp only [laws_eqPartS.l0]; rw [if_pos (by omega), if_pos (by omega), if_pos (by omega)]) ?_
  refine Ev.bind (eqPart_same _ (hx _ (getD_mem l z118 hi))) ?_
  exact Ev.same e (fun k => if_pos rfl)
theorem eqForest_same (f0 : List (S118)) (hx0 : f0.length ≤ 4611686018427387904 ∧ ∀ y ∈ f0, lePart y) : Ev (fun k => laws_eqForest.f k f0 f0) true := by
  unfold laws_eqForest.f
  refine Ev.bind (eqPartS_same f0 hx0.1 hx0.2) ?_
  simp only [if_true, bne_self_eq_false, Bool.false_eq_true, if_false]
  exact Ev.now _
end Go.Proofs.Ytlkbdoejeomlmaa.EFnExactCountForest
