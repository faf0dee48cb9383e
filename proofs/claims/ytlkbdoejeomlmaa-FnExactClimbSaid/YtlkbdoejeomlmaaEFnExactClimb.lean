/- What the law's own helpers of FnExactClimb come to: sizes, turned arguments, equality of the same. No condition. Written by a program of this session. -/
import Derived.Test.YtlkbdoejeomlmaaPFnExactClimbx6
import Derived.Test.YtlkbdoejeomlmaaPl
import Derived.Test.YtlkbdoejeomlmaaSFnExactClimb
namespace Go.Proofs.Ytlkbdoejeomlmaa.EFnExactClimb
open Go.RowKit Go.Proofs.Ytlkbdoejeomlmaa.PFnExactClimb Go.Proofs.Ytlkbdoejeomlmaa.SFnExactClimb Go.Proofs.YtlkbdoejeomlmaaPl Go.Proofs.YtlkbdoejeomlmaaW.PrintWords Go.Proofs.YtlkbdoejeomlmaaW.PrintLast
set_option linter.unusedVariables false
set_option linter.unusedSimpArgs false
/-! Op -/
def smOp (x : S134) : Prop := (x.f0.size ≤ 1048576)
theorem szOp_ok (x : S134) (hx : wf134 x) : Sz (fun a k => laws_szOp.f x.f0 x.f1 x.f2 a) (smOp x) := by
  intro a h0 h1
  unfold laws_szOp.f smOp
  dsimp only
  obtain ⟨hx0, hx1, hx2⟩ := hx
  have hy0 : x.f0.size ≤ 9223372036854775807 := hx0
  have w0 : wrap64 (a - (x.f0.size : Int)) = a - (x.f0.size : Int) := w64 (by omega) (by omega)
  by_cases c0 : a - (x.f0.size : Int) < 0
  · refine ⟨-1, ?_, by omega, fun h => by omega⟩
    simp only [w0, if_pos c0]
    exact Ev.now _
  refine ⟨a - (x.f0.size : Int), ?_, by omega, fun _ => by omega⟩
  simp only [w0, if_neg c0]
  exact Ev.now _
theorem szOpS_ok (l : List S134) (hl : l.length ≤ 9223372036854775807) (hx : ∀ x ∈ l, wf134 x) : Sz (fun a k => laws_szOpS.f k l a) (l.length ≤ 1048576 ∧ ∀ x ∈ l, smOp x) := by
  intro a h0 h1
  unfold laws_szOpS.f
  dsimp only
  rw [w64 (by omega) (by omega)]
  by_cases h : a - (l.length : Int) < 0
  · exact ⟨-1, Ev.just (fun k => by rw [if_pos h]), by omega, fun h => by omega⟩
  · simp only [if_neg h]
    obtain ⟨r, e, hr, hq⟩ := Sz.loop (fun k a i => laws_szOpS.l0 k l a i) l.length (fun i => smOp (l.getD i z134)) (by omega) (fun a => Ev.done (fun k => by simp only [laws_szOpS.l0]; rw [if_neg (by omega)])) (fun i a hi h0 h1 => by
      obtain ⟨r, e, hra, hrq⟩ := szOp_ok _ (hx _ (getD_mem l z134 hi)) a h0 h1
      have hrd : (rd_T134 l (i : Int)) = l.getD i z134 := rfl
      by_cases hneg : r < 0
      · refine ⟨-1, by omega, .inl ⟨by omega, ?_⟩⟩
        refine Ev.step (fun k => by simp only [laws_szOpS.l0]; rw [if_pos (by omega), if_pos (by omega), hrd]) ?_
        refine Ev.bind e ?_
        exact Ev.just (fun k => if_pos hneg)
      · refine ⟨r, hra, .inr ⟨by omega, hrq (by omega), fun q eq => ?_⟩⟩
        refine Ev.step (fun k => by simp only [laws_szOpS.l0]; rw [if_pos (by omega), if_pos (by omega), hrd]) ?_
        refine Ev.bind e ?_
        exact Ev.same eq (fun k => if_neg hneg)) (a - l.length) (by omega) (by omega)
    refine ⟨r, e, by omega, fun h => ⟨by omega, fun y hy => ?_⟩⟩
    obtain ⟨i, hi, rfl⟩ := List.mem_iff_getElem.1 hy
    have := hq h i hi
    simpa [List.getD, hi] using this
def cvOp (x : S134) : S128 := ⟨x.f0, x.f1, x.f2⟩
theorem toOp_ok (x : S134) (hx : smOp x) : Ev (fun k => laws_toOp.f x.f0 x.f1 x.f2) ((cvOp x).f0, (cvOp x).f1, (cvOp x).f2) := by
  unfold laws_toOp.f
  unfold smOp at hx
  exact Ev.just (fun k => rfl)
theorem toOpS_ok (l : List S134) (hl : l.length ≤ 1048576) (hx : ∀ x ∈ l, smOp x) : Ev (fun k => laws_toOpS.f k l) (l.map cvOp) := by
  unfold laws_toOpS.f
  have e0 : (0 : Int) ≤ (l.length : Int) := by omega
  have e1 : ((l.length : Int)).toNat ≤ 8796093022208 := by omega
  simp only [if_pos e0, if_pos e1]
  have hz : ((l.length : Int)).toNat = l.length := by omega
  rw [hz]
  have := fill (fun k xs i => laws_toOpS.l0 k l xs i) l.length (fun i => cvOp (l.getD i z134)) (by omega) (fun xs hxs => Ev.done (fun k => by simp only [laws_toOpS.l0]; rw [if_neg (by omega)])) (fun xs i r hi hxs e => by
    refine Ev.step (fun k => by simp only [laws_toOpS.l0]; rw [if_pos (by omega), if_pos (by omega)]) ?_
    refine Ev.bind (toOp_ok (l.getD i z134) (hx _ (getD_mem l _ hi))) ?_
    exact Ev.same e (fun k => if_pos (by omega))) (List.replicate l.length z128) (by simp)
  rw [← map_range l z134 cvOp]
  exact this
def leOp (x : S128) : Prop := True
theorem eqOp_same (x : S128) (hx : leOp x) : Ev (fun k => laws_eqOp.f x.f0 x.f1 x.f2 x.f0 x.f1 x.f2) true := by
  unfold laws_eqOp.f
  unfold leOp at hx
  simp only [if_true, bne_self_eq_false, Bool.false_eq_true, if_false]
  exact Ev.now _
theorem eqOpS_same (l : List S128) (hl : l.length ≤ 4611686018427387904) (hx : ∀ x ∈ l, leOp x) : Ev (fun k => laws_eqOpS.f k l l) true := by
  unfold laws_eqOpS.f
  simp only [if_true]
  refine scan (fun k i => laws_eqOpS.l0 k l l i) l.length (fun _ => true) (by omega) (Ev.done (fun k => by simp only [laws_eqOpS.l0]; rw [if_neg (by omega)])) (fun i hi e => ?_) 0 (by omega)
  refine Ev.step (fun k => by simp only [laws_eqOpS.l0]; rw [if_pos (by omega), if_pos (by omega), if_pos (by omega)]) ?_
  refine Ev.bind (eqOp_same _ (hx _ (getD_mem l z128 hi))) ?_
  exact Ev.same e (fun k => if_pos rfl)
end Go.Proofs.Ytlkbdoejeomlmaa.EFnExactClimb
