/- Loops over lists: one that ends at the first place that doesn't do, one that carries a state. General; no condition. -/
import Derived.Test.YthdoibaeamiepaaPl
namespace Go.Proofs.YthdoibaeamiepaaLp
open Go.RowKit Go.Proofs.YthdoibaeamiepaaPl Go.Proofs.YthdoibaeamiepaaW.PrintWords
set_option linter.unusedVariables false

theorem all_getD {α : Type} (xs : List α) (z : α) (p : α → Prop) : (∀ x ∈ xs, p x) ↔ ∀ i, i < xs.length → p (xs.getD i z) := by
  constructor
  · intro h i hi; exact h _ (getD_mem xs z hi)
  · intro h x hx
    obtain ⟨i, hi, rfl⟩ := List.mem_iff_getElem.1 hx
    have := h i hi
    simpa [List.getD, hi] using this

/-- A loop that ends with 'bad' at the first place that doesn't meet p, and else goes on behind its end. -/
theorem each {ρ : Type} (l : Nat → Int → Option ρ) (n : Nat) (p : Nat → Prop) (bad : ρ) (hn : n ≤ 4611686018427387904)
    (hbad : ∀ i : Nat, i < n → ¬ p i → Ev (fun k => l k (i : Int)) bad)
    (hgood : ∀ (i : Nat) (r : ρ), i < n → p i → Ev (fun k => l k (wrap64 ((i : Int) + 1))) r → Ev (fun k => l k (i : Int)) r) :
    (∀ r, (∀ i, i < n → p i) → Ev (fun k => l k (n : Int)) r → Ev (fun k => l k 0) r) ∧ ((¬ ∀ i, i < n → p i) → Ev (fun k => l k 0) bad) := by
  have main : ∀ (d i : Nat), i + d = n → (∀ r, (∀ j, i ≤ j → j < n → p j) → Ev (fun k => l k (n : Int)) r → Ev (fun k => l k (i : Int)) r) ∧ ((¬ ∀ j, i ≤ j → j < n → p j) → Ev (fun k => l k (i : Int)) bad) := by
    intro d
    induction d with
    | zero =>
      intro i h
      have : i = n := by omega
      subst this
      exact ⟨fun r _ e => e, fun h => absurd (fun j h1 h2 => by omega) h⟩
    | succ d ih =>
      intro i h
      obtain ⟨h1, h2⟩ := ih (i + 1) (by omega)
      have hw : wrap64 ((i : Int) + 1) = ((i + 1 : Nat) : Int) := up64 (n := n) (by omega) hn
      refine ⟨fun r hp e => ?_, fun hp => ?_⟩
      · refine hgood i r (by omega) (hp i (Nat.le_refl _) (by omega)) ?_
        rw [hw]
        exact h1 r (fun j a b => hp j (by omega) b) e
      · by_cases hi : p i
        · refine hgood i _ (by omega) hi ?_
          rw [hw]
          refine h2 (fun hq => hp (fun j a b => ?_))
          by_cases hij : j = i
          · subst hij; exact hi
          · exact hq j (by omega) b
        · exact hbad i (by omega) hi
  obtain ⟨h1, h2⟩ := main n 0 (by omega)
  exact ⟨fun r hp e => h1 r (fun j _ hj => hp j hj) e, fun hp => h2 (fun hq => hp (fun j hj => hq j (by omega) hj))⟩

/-- A loop over a list that carries a state. -/
theorem run {σ ρ α : Type} (l : Nat → σ → Int → Option ρ) (xs : List α) (z : α) (hn : xs.length ≤ 4611686018427387904) (g : σ → α → σ) (I : Nat → σ → Prop)
    (hstep : ∀ (i : Nat) (s : σ) (r : ρ), i < xs.length → xs.getD i z ∈ xs → I i s → I (i + 1) (g s (xs.getD i z)) ∧ (Ev (fun k => l k (g s (xs.getD i z)) (wrap64 ((i : Int) + 1))) r → Ev (fun k => l k s (i : Int)) r)) :
    ∀ (s : σ) (r : ρ), I 0 s → Ev (fun k => l k (xs.foldl g s) (xs.length : Int)) r → Ev (fun k => l k s 0) r := by
  have main : ∀ (d i : Nat) (s : σ) (r : ρ), i + d = xs.length → I i s → Ev (fun k => l k ((xs.drop i).foldl g s) (xs.length : Int)) r → Ev (fun k => l k s (i : Int)) r := by
    intro d
    induction d with
    | zero =>
      intro i s r h _ e
      rw [List.drop_of_length_le (by omega)] at e
      have : i = xs.length := by omega
      subst this
      exact e
    | succ d ih =>
      intro i s r h hI e
      have hi : i < xs.length := by omega
      obtain ⟨h1, h2⟩ := hstep i s r hi (getD_mem xs z hi) hI
      refine h2 ?_
      rw [up64 hi hn]
      refine ih (i + 1) _ r (by omega) h1 ?_
      rw [List.drop_eq_getElem_cons hi, List.foldl_cons] at e
      have hg : xs.getD i z = xs[i] := by simp [List.getD, hi]
      rw [hg]
      exact e
  intro s r hI e
  exact main xs.length 0 s r (by omega) hI (by simpa using e)

end Go.Proofs.YthdoibaeamiepaaLp
