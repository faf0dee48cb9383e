/- Plain lemmas for loops that go up, for what is filled place by place, for sizes that are counted down. General; no condition. -/
import Derived.Test.YthdoibaeamiepaaWWords
import Derived.RowKit
import Derived.Laws.Strings
namespace Go.Proofs.YthdoibaeamiepaaPl
open Go.RowKit Go.Proofs.YthdoibaeamiepaaW.PrintWords

theorem w64 {x : Int} (h0 : -9223372036854775808 ≤ x) (h1 : x ≤ 9223372036854775807) : wrap64 x = x := by unfold wrap64; omega
theorem up64 {i n : Nat} (hi : i < n) (hn : n ≤ 4611686018427387904) : wrap64 ((i : Int) + 1) = ((i + 1 : Nat) : Int) := by unfold wrap64; omega

theorem Ev.just {α : Type} {g : Nat → Option α} {r : α} (h : ∀ k, g k = some r) : Ev g r := ⟨0, fun k _ => h k⟩
theorem Ev.next {α : Type} {g f : Nat → Option α} {r : α} (k : Ev f r) (h : ∀ k, g (k + 1) = f k) : Ev g r := Ev.step h k
theorem Ev.same {α : Type} {g f : Nat → Option α} {r : α} (k : Ev f r) (h : ∀ k, g k = f k) : Ev g r := Ev.congr h k
theorem Ev.done {α : Type} {g : Nat → Option α} {r : α} (h : ∀ k, g (k + 1) = some r) : Ev g r := Ev.step (f := fun _ => some r) h (Ev.now r)

/-- A loop that goes up, told from its end. -/
theorem scan {ρ : Type} (l : Nat → Int → Option ρ) (n : Nat) (F : Nat → ρ) (hn : n ≤ 4611686018427387904) (hend : Ev (fun k => l k (n : Int)) (F n))
    (hstep : ∀ i : Nat, i < n → Ev (fun k => l k (wrap64 ((i : Int) + 1))) (F (i + 1)) → Ev (fun k => l k (i : Int)) (F i)) : ∀ i : Nat, i ≤ n → Ev (fun k => l k (i : Int)) (F i) := by
  have : ∀ d i : Nat, i + d = n → Ev (fun k => l k (i : Int)) (F i) := by
    intro d
    induction d with
    | zero => intro i h; have : i = n := by omega
              subst this; exact hend
    | succ d ih =>
      intro i h
      refine hstep i (by omega) ?_
      rw [up64 (n := n) (by omega) hn]
      exact ih (i + 1) (by omega)
  intro i hi
  exact this (n - i) i (by omega)

theorem set_take {α : Type} (xs : List α) (i : Nat) (y : α) (hi : i < xs.length) : (xs.set i y).take (i + 1) = xs.take i ++ [y] := by
  rw [List.take_add_one]
  simp [List.take_set_of_le, hi]

/-- What is filled place by place. -/
theorem fill {β : Type} (l : Nat → List β → Int → Option (List β)) (n : Nat) (c : Nat → β) (hn : n ≤ 4611686018427387904) (hend : ∀ xs : List β, xs.length = n → Ev (fun k => l k xs (n : Int)) xs)
    (hstep : ∀ (xs : List β) (i : Nat) (r : List β), i < n → xs.length = n → Ev (fun k => l k (xs.set i (c i)) (wrap64 ((i : Int) + 1))) r → Ev (fun k => l k xs (i : Int)) r) :
    ∀ xs : List β, xs.length = n → Ev (fun k => l k xs (0 : Int)) ((List.range n).map c) := by
  have main : ∀ (d i : Nat) (xs : List β), i + d = n → xs.length = n → xs.take i = (List.range i).map c → Ev (fun k => l k xs (i : Int)) ((List.range n).map c) := by
    intro d
    induction d with
    | zero =>
      intro i xs h hl ht
      have hi : i = n := by omega
      subst hi
      have : xs = (List.range i).map c := by rw [← ht, ← hl, List.take_length]
      rw [← this]
      exact hend xs hl
    | succ d ih =>
      intro i xs h hl ht
      refine hstep xs i _ (by omega) hl ?_
      rw [up64 (n := n) (by omega) hn]
      refine ih (i + 1) _ (by omega) (by simp; exact hl) ?_
      rw [set_take _ _ _ (by omega), ht, List.range_succ, List.map_append]
      rfl
  intro xs hl
  exact main n 0 xs (by omega) hl (by simp)

theorem map_range {α β : Type} (xs : List α) (z : α) (f : α → β) : (List.range xs.length).map (fun i => f (xs.getD i z)) = xs.map f := by
  apply List.ext_getElem
  · simp
  · intro i h1 h2
    simp at h1
    simp [List.getD, h1]

theorem getD_mem {α : Type} (xs : List α) (z : α) {i : Nat} (h : i < xs.length) : xs.getD i z ∈ xs := by
  simp [List.getD, h]

/-- A size that is counted down: below 0, or all is small. -/
def Sz (g : Int → Nat → Option Int) (Q : Prop) : Prop := ∀ a : Int, 0 ≤ a → a ≤ 1048576 → ∃ r, Ev (g a) r ∧ r ≤ a ∧ (0 ≤ r → Q)

theorem Sz.loop (l : Nat → Int → Int → Option Int) (n : Nat) (Q : Nat → Prop) (hn : n ≤ 4611686018427387904) (hend : ∀ a, Ev (fun k => l k a (n : Int)) a)
    (hstep : ∀ (i : Nat) (a : Int), i < n → 0 ≤ a → a ≤ 1048576 → ∃ r : Int, r ≤ a ∧ ((r < 0 ∧ Ev (fun k => l k a (i : Int)) (-1)) ∨ (0 ≤ r ∧ Q i ∧ ∀ q, Ev (fun k => l k r (wrap64 ((i : Int) + 1))) q → Ev (fun k => l k a (i : Int)) q))) :
    ∀ a : Int, 0 ≤ a → a ≤ 1048576 → ∃ r, Ev (fun k => l k a (0 : Int)) r ∧ r ≤ a ∧ (0 ≤ r → ∀ i, i < n → Q i) := by
  have main : ∀ (d i : Nat) (a : Int), i + d = n → 0 ≤ a → a ≤ 1048576 → ∃ r, Ev (fun k => l k a (i : Int)) r ∧ r ≤ a ∧ (0 ≤ r → ∀ j, i ≤ j → j < n → Q j) := by
    intro d
    induction d with
    | zero =>
      intro i a h h0 h1
      have hi : i = n := by omega
      subst hi
      exact ⟨a, hend a, Int.le_refl _, fun _ j hj hj2 => by omega⟩
    | succ d ih =>
      intro i a h h0 h1
      obtain ⟨r, hr, ⟨hneg, e⟩ | ⟨hpos, hq, e⟩⟩ := hstep i a (by omega) h0 h1
      · exact ⟨-1, e, by omega, fun h => by omega⟩
      · obtain ⟨q, eq, hqa, hq2⟩ := ih (i + 1) r (by omega) hpos (by omega)
        refine ⟨q, e q ?_, by omega, fun h j hj hj2 => ?_⟩
        · rw [up64 (n := n) (by omega) hn]; exact eq
        · by_cases hij : j = i
          · subst hij; exact hq
          · exact hq2 h j (by omega) hj2
  intro a h0 h1
  obtain ⟨r, e, hr, h⟩ := main n 0 a (by omega) h0 h1
  exact ⟨r, e, hr, fun hp i hi => h hp i (by omega) hi⟩

/-- Places from i on, d of them, all meet p. -/
def allUp (p : Nat → Bool) (i : Nat) : Nat → Bool
  | 0 => true
  | d + 1 => p i && allUp p (i + 1) d
theorem allUp_iff (p : Nat → Bool) : ∀ (d i : Nat), allUp p i d = true ↔ ∀ j, i ≤ j → j < i + d → p j = true := by
  intro d
  induction d with
  | zero => intro i; simp [allUp]; intro j h1 h2; omega
  | succ d ih =>
    intro i
    simp only [allUp, Bool.and_eq_true, ih]
    constructor
    · rintro ⟨h1, h2⟩ j hj hj2
      by_cases h : j = i
      · subst h; exact h1
      · exact h2 j (by omega) (by omega)
    · intro h
      exact ⟨h i (by omega) (by omega), fun j hj hj2 => h j (by omega) (by omega)⟩
/-- A loop that ends with false at the first place that doesn't meet p. -/
theorem allLoop (l : Nat → Int → Option Bool) (n : Nat) (p : Nat → Bool) (fin : Bool) (hn : n ≤ 4611686018427387904) (hend : Ev (fun k => l k (n : Int)) fin)
    (hbad : ∀ i : Nat, i < n → p i = false → Ev (fun k => l k (i : Int)) false)
    (hgood : ∀ (i : Nat) (r : Bool), i < n → p i = true → Ev (fun k => l k (wrap64 ((i : Int) + 1))) r → Ev (fun k => l k (i : Int)) r) (i : Nat) (hi : i ≤ n) : Ev (fun k => l k (i : Int)) (allUp p i (n - i) && fin) := by
  refine scan l n (fun i => allUp p i (n - i) && fin) hn (by simpa [allUp] using hend) (fun i hi h => ?_) i hi
  have hd : n - i = (n - (i + 1)) + 1 := by omega
  show Ev _ (allUp p i (n - i) && fin)
  rw [hd, allUp]
  by_cases hp : p i = true
  · rw [hp, Bool.true_and]; exact hgood i _ hi hp h
  · have hp' : p i = false := by simpa using hp
    rw [hp', Bool.false_and, Bool.false_and]; exact hbad i hi hp'
theorem toList_eq (s : ByteArray) : s.toList = s.data.toList := ByteArray.toList_eq s
end Go.Proofs.YthdoibaeamiepaaPl
