/- The program's Ambiguous and the reference's come to the same on plain lists of at most 1048576 places each. -/
import Derived.Test.YtlkbdoejeomlmaaRFnExactAmbiguous
namespace Go.Proofs.Ytlkbdoejeomlmaa.MFnExactAmbiguous
open Go.RowKit Go.Proofs.Ytlkbdoejeomlmaa.PFnExactAmbiguous Go.Proofs.Ytlkbdoejeomlmaa.RFnExactAmbiguous Go.Proofs.Ytlkbdoejeomlmaa.EFnExactAmbiguous Go.Proofs.YtlkbdoejeomlmaaPl Go.Proofs.YtlkbdoejeomlmaaW.PrintWords Go.Proofs.YtlkbdoejeomlmaaW.PrintLast
set_option linter.unusedVariables false

/-- Whether p stands, as a Bool. -/
noncomputable def dec (p : Prop) : Bool := @decide p (Classical.propDecidable p)
theorem dec_true {p : Prop} (h : p) : dec p = true := @decide_eq_true p (Classical.propDecidable p) h
theorem dec_false {p : Prop} (h : ¬ p) : dec p = false := @decide_eq_false p (Classical.propDecidable p) h
theorem dec_congr {p q : Prop} (h : p ↔ q) : dec p = dec q := by rw [propext h]

/-- More than one way at place i. -/
def two (l : List S118) (i : Nat) : Bool := decide ((((l.getD i z118).f4).length : Int) > 1)

theorem impl_list (l : List S118) (hn : l.length ≤ 1048576) (y : List Int) (hy : y.length ≤ 4611686018427387904) (hr : ∀ x ∈ y, 0 ≤ x ∧ x < (l.length : Int)) :
    Ev (fun k => impl_Ambiguous.l0 k y (y.length : Int) 0 l) (dec (∃ x ∈ y, two l x.toNat = true)) := by
  have main : ∀ (d i : Nat), i + d = y.length → Ev (fun k => impl_Ambiguous.l0 k y (y.length : Int) (i : Int) l) (dec (∃ x ∈ y.drop i, two l x.toNat = true)) := by
    intro d
    induction d with
    | zero =>
      intro i h
      have : dec (∃ x ∈ y.drop i, two l x.toNat = true) = false := by
        rw [List.drop_of_length_le (by omega)]; exact dec_false (by simp)
      rw [this]
      exact Ev.done (fun k => by simp only [impl_Ambiguous.l0]; rw [if_neg (by omega)])
    | succ d ih =>
      intro i h
      have hi : i < y.length := by omega
      have hw : wrap64 ((i : Int) + 1) = ((i + 1 : Nat) : Int) := up64 hi hy
      have h1 : (i : Int) < (y.length : Int) := by omega
      have h2 : (0 : Int) ≤ (i : Int) := by omega
      have hg : y.getD i 0 = y[i] := by simp [List.getD, hi]
      have hri := hr y[i] (List.getElem_mem hi)
      obtain ⟨x, hx⟩ : ∃ x : Nat, y[i] = (x : Int) := ⟨y[i].toNat, by omega⟩
      have hrd : rd y (i : Int) = (x : Int) := by rw [rdInt, hg, hx]
      have h3 : (0 : Int) ≤ (x : Int) := by omega
      have h4 : (x : Int) < (l.length : Int) := by omega
      have hxn : ((x : Int)).toNat = x := by omega
      have hd : dec (∃ z ∈ y.drop i, two l z.toNat = true) = (two l x || dec (∃ z ∈ y.drop (i + 1), two l z.toNat = true)) := by
        rw [List.drop_eq_getElem_cons hi, hx]
        by_cases ht : two l x = true
        · rw [ht, Bool.true_or]
          exact dec_true ⟨(x : Int), List.mem_cons_self, by rw [hxn]; exact ht⟩
        · have ht' : two l x = false := by simpa using ht
          rw [ht', Bool.false_or]
          refine dec_congr ⟨?_, ?_⟩
          · rintro ⟨z, hz, hz2⟩
            rcases List.mem_cons.1 hz with rfl | hz
            · rw [hxn] at hz2; exact absurd hz2 ht
            · exact ⟨z, hz, hz2⟩
          · rintro ⟨z, hz, hz2⟩
            exact ⟨z, List.mem_cons_of_mem _ hz, hz2⟩
      rw [hd]
      by_cases ht : (((l.getD x z118).f4).length : Int) > 1
      · have : two l x = true := decide_eq_true ht
        rw [this, Bool.true_or]
        refine Ev.done (fun k => ?_)
        simp only [impl_Ambiguous.l0]
        rw [if_pos h1, if_pos h2, if_pos h1, hrd, if_pos h3, if_pos h4, rdT, if_pos ht]
      · have : two l x = false := decide_eq_false ht
        rw [this, Bool.false_or]
        have e := ih (i + 1) (by omega)
        rw [← hw] at e
        refine Ev.next e (fun k => ?_)
        simp only [impl_Ambiguous.l0]
        rw [if_pos h1, if_pos h2, if_pos h1, hrd, if_pos h3, if_pos h4, rdT, if_neg ht]
  have := main y.length 0 (by omega)
  simpa using this

theorem spec_list (l : List S118) (hn : l.length ≤ 1048576) (m : List Bool) (hm : m.length = l.length) :
    Ev (fun k => spec_Ambiguous.l0 k m 0 l) (dec (∃ i, i < l.length ∧ (i = 0 ∨ m.getD i false = true) ∧ two l i = true)) := by
  have main : ∀ (d i : Nat), i + d = l.length → Ev (fun k => spec_Ambiguous.l0 k m (i : Int) l) (dec (∃ j, i ≤ j ∧ j < l.length ∧ (j = 0 ∨ m.getD j false = true) ∧ two l j = true)) := by
    intro d
    induction d with
    | zero =>
      intro i h
      have : dec (∃ j, i ≤ j ∧ j < l.length ∧ (j = 0 ∨ m.getD j false = true) ∧ two l j = true) = false := dec_false (by rintro ⟨j, h1, h2, _⟩; omega)
      rw [this]
      exact Ev.done (fun k => by simp only [spec_Ambiguous.l0]; rw [if_neg (by omega)])
    | succ d ih =>
      intro i h
      have hi : i < l.length := by omega
      have hw : wrap64 ((i : Int) + 1) = ((i + 1 : Nat) : Int) := up64 hi (by omega)
      have h1 : (i : Int) < (l.length : Int) := by omega
      have h2 : (0 : Int) ≤ (i : Int) := by omega
      have h3 : (i : Int) < (m.length : Int) := by omega
      have e := ih (i + 1) (by omega)
      rw [← hw] at e
      have hno : ¬ ((i = 0 ∨ m.getD i false = true) ∧ two l i = true) → dec (∃ j, i ≤ j ∧ j < l.length ∧ (j = 0 ∨ m.getD j false = true) ∧ two l j = true) = dec (∃ j, i + 1 ≤ j ∧ j < l.length ∧ (j = 0 ∨ m.getD j false = true) ∧ two l j = true) := by
        intro hn
        refine dec_congr ⟨?_, ?_⟩
        · rintro ⟨j, a, b, c⟩
          by_cases hj : j = i
          · subst hj; exact absurd c hn
          · exact ⟨j, by omega, b, c⟩
        · rintro ⟨j, a, b⟩; exact ⟨j, by omega, b⟩
      have hyes : (i = 0 ∨ m.getD i false = true) ∧ two l i = true → dec (∃ j, i ≤ j ∧ j < l.length ∧ (j = 0 ∨ m.getD j false = true) ∧ two l j = true) = true := fun h => dec_true ⟨i, Nat.le_refl _, hi, h⟩
      by_cases h0 : i = 0
      · have h0' : (i : Int) = 0 := by omega
        by_cases ht : (((l.getD i z118).f4).length : Int) > 1
        · rw [hyes ⟨.inl h0, decide_eq_true ht⟩]
          refine Ev.done (fun k => ?_)
          simp only [spec_Ambiguous.l0]
          rw [if_pos h1, if_pos h0', if_pos h2, rdT, if_pos ht]
        · rw [hno (fun h => ht (of_decide_eq_true h.2))]
          refine Ev.next e (fun k => ?_)
          simp only [spec_Ambiguous.l0]
          rw [if_pos h1, if_pos h0', if_pos h2, rdT, if_neg ht]
      · have h0' : ¬ ((i : Int) = 0) := by omega
        by_cases hb : m.getD i false = true
        · by_cases ht : (((l.getD i z118).f4).length : Int) > 1
          · rw [hyes ⟨.inr hb, decide_eq_true ht⟩]
            refine Ev.done (fun k => ?_)
            simp only [spec_Ambiguous.l0]
            rw [if_pos h1, if_neg h0', if_pos h2, if_pos h3, rdB, if_pos hb, rdT, if_pos ht]
          · rw [hno (fun h => ht (of_decide_eq_true h.2))]
            refine Ev.next e (fun k => ?_)
            simp only [spec_Ambiguous.l0]
            rw [if_pos h1, if_neg h0', if_pos h2, if_pos h3, rdB, if_pos hb, rdT, if_neg ht]
        · rw [hno (fun h => h.1.elim h0 hb)]
          refine Ev.next e (fun k => ?_)
          simp only [spec_Ambiguous.l0]
          rw [if_pos h1, if_neg h0', if_pos h2, if_pos h3, rdB, if_neg hb]
  have := main l.length 0 (by omega)
  simpa using this

theorem same {l : List S118} (hs : small l) : ∃ r, Ev (fun k => spec_Ambiguous.f k l) r ∧ Ev (fun k => impl_Ambiguous.f k l) r := by
  have hn := hs.1
  unfold spec_Ambiguous.f impl_Ambiguous.f
  by_cases h0 : (l.length : Int) = 0
  · simp only [if_pos h0]
    exact ⟨false, Ev.now _, Ev.now _⟩
  · simp only [if_neg h0]
    obtain ⟨m, c, em, ec, hml, hcl, hmem, hcr⟩ := reach hs 0 (by omega)
    have hy := impl_list l hn (c ++ [0]) (by simp; omega) (fun x hx => by
      rcases List.mem_append.1 hx with hx | hx
      · exact hcr x hx
      · rw [List.mem_singleton.1 hx]; omega)
    have hm := spec_list l hn m hml
    have hsame : dec (∃ x ∈ c ++ [0], two l x.toNat = true) = dec (∃ i, i < l.length ∧ (i = 0 ∨ m.getD i false = true) ∧ two l i = true) := by
      refine dec_congr ⟨?_, ?_⟩
      · rintro ⟨x, hx, h⟩
        rcases List.mem_append.1 hx with hx | hx
        · have := hcr x hx
          refine ⟨x.toNat, by omega, .inr ?_, h⟩
          rw [hmem x.toNat (by omega)]
          rw [show ((x.toNat : Nat) : Int) = x from by omega]
          exact hx
        · rw [List.mem_singleton.1 hx] at h
          exact ⟨0, by omega, .inl rfl, h⟩
      · rintro ⟨i, hi, h, h2⟩
        rcases h with rfl | h
        · exact ⟨0, by simp, h2⟩
        · exact ⟨(i : Int), by simp [(hmem i hi).1 h], by simpa using h2⟩
    refine ⟨_, Ev.bind em hm, ?_⟩
    refine Ev.bind ec ?_
    have hlt : c.length < 17592186044416 := by omega
    simp only [if_pos hlt, Option.bind_some]
    rw [← hsame]
    exact hy
end Go.Proofs.Ytlkbdoejeomlmaa.MFnExactAmbiguous
