/- The program's CountForest and the reference's come to the same on plain lists of at most 1048576 places each. -/
import Derived.Test.YtlkbdoejeomlmaaEFnExactCountForest
namespace Go.Proofs.Ytlkbdoejeomlmaa.MFnExactCountForest
open Go.RowKit Go.Proofs.Ytlkbdoejeomlmaa.PFnExactCountForest Go.Proofs.Ytlkbdoejeomlmaa.EFnExactCountForest Go.Proofs.YtlkbdoejeomlmaaPl Go.Proofs.YtlkbdoejeomlmaaW.PrintWords Go.Proofs.YtlkbdoejeomlmaaW.PrintLast Go.Proofs.YtlkbdoejeomlmaaW.PrintMore
set_option linter.unusedVariables false

theorem within_ok (a b c : Int) : impl_within.f a b c = some (decide (b ≤ a ∧ a ≤ c)) := by
  unfold impl_within.f
  by_cases h : a ≥ b
  · rw [if_pos h]; simp [h]
  · rw [if_neg h]; simp; omega
theorem in_ok (a b c : Int) : spec_l01In.f a b c = some (decide (b ≤ a ∧ a ≤ c)) := by
  unfold spec_l01In.f
  by_cases h : a ≥ b
  · rw [if_pos h]; simp [h]
  · rw [if_neg h]; simp; omega
theorem rdInt (l : List Int) (i : Nat) : rd l (i : Int) = l.getD i 0 := by
  have h : (i : Int).toNat = i := by omega
  unfold rd
  rw [h]
theorem rdT (l : List S118) (i : Nat) : rd_T118 l (i : Int) = l.getD i z118 := by
  have h : (i : Int).toNat = i := by omega
  unfold rd_T118
  rw [h]
theorem rdW (l : List S131) (i : Nat) : rd_T131 l (i : Int) = l.getD i z131 := by
  have h : (i : Int).toNat = i := by omega
  unfold rd_T131
  rw [h]

/-- All lists are small. -/
def small (l : List S118) : Prop := l.length ≤ 1048576 ∧ ∀ p ∈ l, p.f4.length ≤ 1048576 ∧ ∀ w ∈ p.f4, w.f1.length ≤ 1048576

theorem all_getD {α : Type} (xs : List α) (z : α) (p : α → Prop) : (∀ x ∈ xs, p x) ↔ ∀ i, i < xs.length → p (xs.getD i z) := by
  constructor
  · intro h i hi; exact h _ (getD_mem xs z hi)
  · intro h x hx
    obtain ⟨i, hi, rfl⟩ := List.mem_iff_getElem.1 hx
    have := h i hi
    simpa [List.getD, hi] using this

/-- A loop that ends with 'bad' at the first place that doesn't meet p, and else goes on behind its end. -/
theorem each {ρ : Type} (l : Nat → Int → Option ρ) (n : Nat) (p : Nat → Prop) (bad : ρ) (hn : n ≤ 4611686018427387904)
    (hbad : ∀ i : Nat, i < n → ¬ p i → Ev (fun k => l k (i : Int)) bad)
    (hgood : ∀ (i : Nat) (r : ρ), i < n → p i → Ev (fun k => l k (wrap64 ((i : Int) + 1))) r → Ev (fun k => l k (i : Int)) r) :
    (∀ r, (∀ i, i < n → p i) → Ev (fun k => l k (n : Int)) r → Ev (fun k => l k 0) r) ∧ ((¬ ∀ i, i < n → p i) → Ev (fun k => l k 0) bad) := by
  have main : ∀ (d i : Nat), i + d = n → (∀ r, (∀ j, i ≤ j → j < n → p j) → Ev (fun k => l k (n : Int)) r → Ev (fun k => l k (i : Int)) r) ∧ ((¬ ∀ j, i ≤ j → j < n → p j) → Ev (fun k => l k (i : Int)) bad) := by
    intro d
    induction d with
    | zero =>
      intro i h
      have : i = n := by omega
      subst this
      exact ⟨fun r _ e => e, fun h => absurd (fun j h1 h2 => by omega) h⟩
    | succ d ih =>
      intro i h
      obtain ⟨h1, h2⟩ := ih (i + 1) (by omega)
      have hw : wrap64 ((i : Int) + 1) = ((i + 1 : Nat) : Int) := up64 (n := n) (by omega) hn
      refine ⟨fun r hp e => ?_, fun hp => ?_⟩
      · refine hgood i r (by omega) (hp i (Nat.le_refl _) (by omega)) ?_
        rw [hw]
        exact h1 r (fun j a b => hp j (by omega) b) e
      · by_cases hi : p i
        · refine hgood i _ (by omega) hi ?_
          rw [hw]
          refine h2 (fun hq => hp (fun j a b => ?_))
          by_cases hij : j = i
          · subst hij; exact hi
          · exact hq j (by omega) b
        · exact hbad i (by omega) hi
  obtain ⟨h1, h2⟩ := main n 0 (by omega)
  exact ⟨fun r hp e => h1 r (fun j _ hj => hp j hj) e, fun hp => h2 (fun hq => hp (fun j hj => hq j (by omega) hj))⟩

/-- A loop over a list that carries a state. -/
theorem run {σ ρ α : Type} (l : Nat → σ → Int → Option ρ) (xs : List α) (z : α) (hn : xs.length ≤ 4611686018427387904) (g : σ → α → σ) (I : Nat → σ → Prop)
    (hstep : ∀ (i : Nat) (s : σ) (r : ρ), i < xs.length → xs.getD i z ∈ xs → I i s → I (i + 1) (g s (xs.getD i z)) ∧ (Ev (fun k => l k (g s (xs.getD i z)) (wrap64 ((i : Int) + 1))) r → Ev (fun k => l k s (i : Int)) r)) :
    ∀ (s : σ) (r : ρ), I 0 s → Ev (fun k => l k (xs.foldl g s) (xs.length : Int)) r → Ev (fun k => l k s 0) r := by
  have main : ∀ (d i : Nat) (s : σ) (r : ρ), i + d = xs.length → I i s → Ev (fun k => l k ((xs.drop i).foldl g s) (xs.length : Int)) r → Ev (fun k => l k s (i : Int)) r := by
    intro d
    induction d with
    | zero =>
      intro i s r h _ e
      rw [List.drop_of_length_le (by omega)] at e
      have : i = xs.length := by omega
      subst this
      exact e
    | succ d ih =>
      intro i s r h hI e
      have hi : i < xs.length := by omega
      obtain ⟨h1, h2⟩ := hstep i s r hi (getD_mem xs z hi) hI
      refine h2 ?_
      rw [up64 hi hn]
      refine ih (i + 1) _ r (by omega) h1 ?_
      rw [List.drop_eq_getElem_cons hi, List.foldl_cons] at e
      have hg : xs.getD i z = xs[i] := by simp [List.getD, hi]
      rw [hg]
      exact e
  intro s r hI e
  exact main xs.length 0 s r (by omega) hI (by simpa using e)

/-- A list of zeros that is filled place by place. -/
theorem fillK {ρ : Type} (l : Nat → List Int → Int → Option ρ) (n : Nat) (c : Nat → Int) (hn : n ≤ 4611686018427387904)
    (hstep : ∀ (xs : List Int) (i : Nat) (r : ρ), i < n → xs.length = n → xs.getD i 0 = 0 → Ev (fun k => l k (xs.set i (c i)) (wrap64 ((i : Int) + 1))) r → Ev (fun k => l k xs (i : Int)) r) :
    ∀ r : ρ, Ev (fun k => l k ((List.range n).map c) (n : Int)) r → Ev (fun k => l k (List.replicate n 0) 0) r := by
  intro r e
  have main : ∀ (d i : Nat), i + d = n → Ev (fun k => l k ((List.range i).map c ++ List.replicate d 0) (i : Int)) r := by
    intro d
    induction d with
    | zero =>
      intro i h
      have : i = n := by omega
      subst this
      simpa using e
    | succ d ih =>
      intro i h
      refine hstep _ i r (by omega) (by simp; omega) (by simp [List.getD]) ?_
      rw [up64 (n := n) (by omega) hn]
      have := ih (i + 1) (by omega)
      have hset : ((List.range i).map c ++ List.replicate (d + 1) 0).set i (c i) = (List.range (i + 1)).map c ++ List.replicate d 0 := by
        rw [List.set_append_right _ _ (by simp), List.replicate_succ, List.range_succ, List.map_append, List.append_assoc]
        simp
      rw [hset]
      exact this
  have := main n 0 (by omega)
  simpa using this

/-! ### the kids are there -/
def okK (n : Nat) (x : Int) : Prop := 0 ≤ x ∧ x ≤ (n : Int) - 1
def okW (n : Nat) (w : S131) : Prop := ∀ x ∈ w.f1, okK n x
def okP (n : Nat) (p : S118) : Prop := ∀ w ∈ p.f4, okW n w
def right (l : List S118) : Prop := ∀ p ∈ l, okP l.length p
instance (n : Nat) (x : Int) : Decidable (okK n x) := by unfold okK; infer_instance

theorem sp2 (l : List S118) (hl : l.length ≤ 1048576) (i w : Int) (ks : List Int) (hk : ks.length ≤ 1048576) :
    (∀ r, (∀ x ∈ ks, okK l.length x) → Ev (fun k => spec_l14Right.l1 k i (wrap64 (w + 1)) l) r → Ev (fun k => spec_l14Right.l2 k i w ks 0 l) r) ∧ ((¬ ∀ x ∈ ks, okK l.length x) → Ev (fun k => spec_l14Right.l2 k i w ks 0 l) false) := by
  have hw : wrap64 ((l.length : Int) - 1) = (l.length : Int) - 1 := w64 (by omega) (by omega)
  have h := each (fun k j => spec_l14Right.l2 k i w ks j l) ks.length (fun j => okK l.length (ks.getD j 0)) false (by omega)
    (fun j hj hp => Ev.done fun k => by
      simp only [spec_l14Right.l2]
      rw [if_pos (by omega), if_pos (by omega), rdInt, in_ok, hw, decide_eq_false (show ¬ (_ ∧ _) from hp), Option.bind_some, if_neg Bool.false_ne_true])
    (fun j r hj hp e => Ev.next e fun k => by
      simp only [spec_l14Right.l2]
      rw [if_pos (by omega), if_pos (by omega), rdInt, in_ok, hw, decide_eq_true (show _ ∧ _ from hp), Option.bind_some, if_pos rfl])
  rw [← all_getD ks 0 (okK l.length)] at h
  refine ⟨fun r hr e => h.1 r hr (Ev.next e (fun k => ?_)), h.2⟩
  simp only [spec_l14Right.l2]
  rw [if_neg (by omega)]

theorem sp1 (l : List S118) (hs : small l) (i : Nat) (hi : i < l.length) :
    (∀ r, okP l.length (l.getD i z118) → Ev (fun k => spec_l14Right.l0 k (wrap64 ((i : Int) + 1)) l) r → Ev (fun k => spec_l14Right.l1 k i 0 l) r) ∧ (¬ okP l.length (l.getD i z118) → Ev (fun k => spec_l14Right.l1 k i 0 l) false) := by
  have hl := hs.1
  obtain ⟨hp1, hp2⟩ := hs.2 _ (getD_mem l z118 hi)
  have h := each (fun k j => spec_l14Right.l1 k i j l) ((l.getD i z118).f4).length (fun j => okW l.length (((l.getD i z118).f4).getD j z131)) false (by omega)
    (fun j hj hp => by
      refine Ev.next ((sp2 l hl i j (((l.getD i z118).f4).getD j z131).f1 (hp2 _ (getD_mem _ z131 hj))).2 hp) fun k => ?_
      simp only [spec_l14Right.l1]
      rw [if_pos (by omega), if_pos (by omega), rdT, if_pos (by omega), if_pos (by omega), rdW])
    (fun j r hj hp e => by
      refine Ev.next ((sp2 l hl i j (((l.getD i z118).f4).getD j z131).f1 (hp2 _ (getD_mem _ z131 hj))).1 r hp e) fun k => ?_
      simp only [spec_l14Right.l1]
      rw [if_pos (by omega), if_pos (by omega), rdT, if_pos (by omega), if_pos (by omega), rdW])
  rw [← all_getD _ z131 (okW l.length)] at h
  refine ⟨fun r hr e => h.1 r hr (Ev.next e (fun k => ?_)), h.2⟩
  simp only [spec_l14Right.l1]
  rw [if_pos (by omega), if_pos (by omega), rdT, if_neg (by omega)]

theorem spec_right (l : List S118) (hs : small l) : (right l → Ev (fun k => spec_l14Right.f k l) (decide ((l.length : Int) > 0))) ∧ (¬ right l → Ev (fun k => spec_l14Right.f k l) false) := by
  have hl := hs.1
  have h := each (fun k j => spec_l14Right.l0 k j l) l.length (fun j => okP l.length (l.getD j z118)) false (by omega)
    (fun j hj hp => by
      refine Ev.next ((sp1 l hs j hj).2 hp) fun k => ?_
      simp only [spec_l14Right.l0]
      rw [if_pos (by omega)])
    (fun j r hj hp e => by
      refine Ev.next ((sp1 l hs j hj).1 r hp e) fun k => ?_
      simp only [spec_l14Right.l0]
      rw [if_pos (by omega)])
  rw [← all_getD l z118 (okP l.length)] at h
  unfold spec_l14Right.f
  refine ⟨fun hr => h.1 _ hr (Ev.done (fun k => ?_)), h.2⟩
  simp only [spec_l14Right.l0]
  rw [if_neg (by omega)]

theorem ahead (ks : List Int) (hk : ks.length ≤ 1048576) (n : Nat) (hn : n ≤ 1048576) :
    ((∀ x ∈ ks, okK n x) → Ev (fun k => impl_kidsAhead.f k ks (n : Int)) true) ∧ ((¬ ∀ x ∈ ks, okK n x) → Ev (fun k => impl_kidsAhead.f k ks (n : Int)) false) := by
  have hw : wrap64 ((n : Int) - 1) = (n : Int) - 1 := w64 (by omega) (by omega)
  have h := each (fun k j => impl_kidsAhead.l0 k (n : Int) ks (ks.length : Int) j) ks.length (fun j => okK n (ks.getD j 0)) false (by omega)
    (fun j hj hp => Ev.done fun k => by
      simp only [impl_kidsAhead.l0]
      rw [if_pos (by omega), if_pos (by omega), if_pos (by omega), rdInt, within_ok, hw, decide_eq_false (show ¬ (_ ∧ _) from hp), Option.bind_some, if_neg Bool.false_ne_true])
    (fun j r hj hp e => Ev.next e fun k => by
      simp only [impl_kidsAhead.l0]
      rw [if_pos (by omega), if_pos (by omega), if_pos (by omega), rdInt, within_ok, hw, decide_eq_true (show _ ∧ _ from hp), Option.bind_some, if_pos rfl])
  rw [← all_getD ks 0 (okK n)] at h
  unfold impl_kidsAhead.f
  refine ⟨fun hr => h.1 _ hr (Ev.done (fun k => ?_)), h.2⟩
  simp only [impl_kidsAhead.l0]
  rw [if_neg (by omega)]

theorem im1 (l : List S118) (hs : small l) (i : Nat) (hi : i < l.length) :
    (∀ r, okP l.length (l.getD i z118) → Ev (fun k => impl_kidsThere.l0 k l (l.length : Int) (wrap64 ((i : Int) + 1)) l) r → Ev (fun k => impl_kidsThere.l1 k l (l.length : Int) i ((l.getD i z118).f4) (((l.getD i z118).f4).length : Int) 0 l) r) ∧ (¬ okP l.length (l.getD i z118) → Ev (fun k => impl_kidsThere.l1 k l (l.length : Int) i ((l.getD i z118).f4) (((l.getD i z118).f4).length : Int) 0 l) false) := by
  have hl := hs.1
  obtain ⟨hp1, hp2⟩ := hs.2 _ (getD_mem l z118 hi)
  have h := each (fun k j => impl_kidsThere.l1 k l (l.length : Int) i ((l.getD i z118).f4) (((l.getD i z118).f4).length : Int) j l) ((l.getD i z118).f4).length (fun j => okW l.length (((l.getD i z118).f4).getD j z131)) false (by omega)
    (fun j hj hp => by
      refine Ev.step (fun k => by simp only [impl_kidsThere.l1]; rw [if_pos (by omega), if_pos (by omega), if_pos (by omega), rdW]) ?_
      refine Ev.bind ((ahead _ (hp2 _ (getD_mem _ z131 hj)) l.length hl).2 hp) ?_
      exact Ev.just (fun k => if_neg Bool.false_ne_true))
    (fun j r hj hp e => by
      refine Ev.step (fun k => by simp only [impl_kidsThere.l1]; rw [if_pos (by omega), if_pos (by omega), if_pos (by omega), rdW]) ?_
      refine Ev.bind ((ahead _ (hp2 _ (getD_mem _ z131 hj)) l.length hl).1 hp) ?_
      exact Ev.same e (fun k => if_pos rfl))
  rw [← all_getD _ z131 (okW l.length)] at h
  refine ⟨fun r hr e => h.1 r hr (Ev.next e (fun k => ?_)), h.2⟩
  simp only [impl_kidsThere.l1]
  rw [if_neg (by omega)]

theorem impl_right (l : List S118) (hs : small l) : (right l → Ev (fun k => impl_kidsThere.f k l) true) ∧ (¬ right l → Ev (fun k => impl_kidsThere.f k l) false) := by
  have hl := hs.1
  have h := each (fun k j => impl_kidsThere.l0 k l (l.length : Int) j l) l.length (fun j => okP l.length (l.getD j z118)) false (by omega)
    (fun j hj hp => by
      refine Ev.next ((im1 l hs j hj).2 hp) fun k => ?_
      simp only [impl_kidsThere.l0]
      rw [if_pos (by omega), if_pos (by omega), if_pos (by omega), rdT])
    (fun j r hj hp e => by
      refine Ev.next ((im1 l hs j hj).1 r hp e) fun k => ?_
      simp only [impl_kidsThere.l0]
      rw [if_pos (by omega), if_pos (by omega), if_pos (by omega), rdT])
  rw [← all_getD l z118 (okP l.length)] at h
  unfold impl_kidsThere.f
  refine ⟨fun hr => h.1 _ hr (Ev.done (fun k => ?_)), h.2⟩
  simp only [impl_kidsThere.l0]
  rw [if_neg (by omega)]

/-! ### the counts -/
def bnd (x : Int) : Prop := 0 ≤ x ∧ x ≤ 1000000
def bnds (xs : List Int) : Prop := ∀ x ∈ xs, bnd x
theorem bnds_getD {xs : List Int} (h : bnds xs) (i : Nat) : bnd (xs.getD i 0) := by
  by_cases hi : i < xs.length
  · exact h _ (getD_mem xs 0 hi)
  · have : xs.getD i 0 = 0 := by simp [List.getD, List.getElem?_eq_none (Nat.le_of_not_lt hi)]
    rw [this]; exact ⟨by omega, by omega⟩
theorem mn_bnd {a : Int} (h : 0 ≤ a) : bnd (mn a 1000000) := by
  unfold mn bnd
  by_cases c : 1000000 < a
  · rw [if_pos c]; omega
  · rw [if_neg c]; omega
theorem mul_lim {a b : Int} (ha : bnd a) (hb : bnd b) : 0 ≤ a * b ∧ a * b ≤ 1000000000000 := by
  obtain ⟨a0, a1⟩ := ha
  obtain ⟨b0, b1⟩ := hb
  refine ⟨Int.mul_nonneg a0 b0, ?_⟩
  have := Int.mul_le_mul a1 b1 b0 (by omega)
  omega
theorem mul_ok {a b : Int} (ha : bnd a) (hb : bnd b) : Ev (fun k => spec_l09Mul.f k a b) (mn (a * b) 1000000) := by
  obtain ⟨m0, m1⟩ := mul_lim ha hb
  have z : mn 0 1000000 = 0 := by unfold mn; rw [if_neg (by omega)]
  unfold spec_l09Mul.f
  by_cases h : a = 0
  · simp only [if_pos h]
    rw [h, Int.zero_mul, z]
    exact Ev.done (fun k => by simp only [spec_l09Mul.j0]; exact if_pos trivial)
  · simp only [if_neg h]
    by_cases hb0 : b = 0
    · have hb1 : (b == 0) = true := by rw [hb0]; rfl
      rw [hb1]
      rw [hb0, Int.mul_zero, z]
      exact Ev.done (fun k => by simp only [spec_l09Mul.j0]; exact if_pos trivial)
    · have hb1 : (b == 0) = false := by simpa using hb0
      rw [hb1]
      obtain ⟨b0, b1⟩ := hb
      have hbp : 0 < b := by omega
      have hd : Int.tdiv (1000000 : Int) b = 1000000 / b := Int.tdiv_eq_ediv_of_nonneg (by omega)
      have hd0 : 0 ≤ (1000000 : Int) / b := Int.ediv_nonneg (by omega) (by omega)
      have hd1 : (1000000 : Int) / b ≤ 1000000 := Int.ediv_le_self _ (by omega)
      have hiff : a ≤ 1000000 / b ↔ a * b ≤ 1000000 := Int.le_ediv_iff_mul_le hbp
      refine Ev.done (fun k => ?_)
      simp only [spec_l09Mul.j0]
      rw [if_neg Bool.false_ne_true, if_neg hb0, hd, w64 (x := 1000000 / b) (by omega) (by omega), w64 (x := a * b) (by omega) (by omega)]
      unfold mn
      by_cases c : a > 1000000 / b
      · rw [if_pos c, if_pos (by omega)]
      · rw [if_neg c, if_neg (by omega)]
theorem add_ok {a b : Int} (ha : bnd a) (hb : bnd b) : spec_l09Add.f a b = some (mn (a + b) 1000000) := by
  obtain ⟨a0, a1⟩ := ha
  obtain ⟨b0, b1⟩ := hb
  unfold spec_l09Add.f mn
  rw [w64 (x := a + b) (by omega) (by omega)]
  by_cases c : a + b > 1000000
  · rw [if_pos c, if_pos (by omega)]
  · rw [if_neg c, if_neg (by omega)]

/-- The product over a way's kids, and the sum over a part's ways. -/
def mulK (x5 : List Int) (c y : Int) : Int := mn (c * x5.getD y.toNat 0) 1000000
def addW (x5 : List Int) (a : Int) (w : S131) : Int := mn (a + w.f1.foldl (mulK x5) 1) 1000000
def cnt (x5 : List Int) (p : S118) : Int := p.f4.foldl (addW x5) 0
theorem mulK_bnd {x5 : List Int} (h : bnds x5) {c : Int} (hc : bnd c) (y : Int) : bnd (mulK x5 c y) := mn_bnd (mul_lim hc (bnds_getD h _)).1
theorem prod_bnd {x5 : List Int} (h : bnds x5) : ∀ (ks : List Int) {c : Int}, bnd c → bnd (ks.foldl (mulK x5) c)
  | [], c, hc => hc
  | y :: ks, c, hc => prod_bnd h ks (mulK_bnd h hc y)
theorem one_bnd : bnd 1 := ⟨by omega, by omega⟩
theorem addW_bnd {x5 : List Int} (h : bnds x5) {a : Int} (ha : bnd a) (w : S131) : bnd (addW x5 a w) := by
  have := prod_bnd h w.f1 one_bnd
  exact mn_bnd (by have h1 := ha.1; have h2 := this.1; omega)
theorem sum_bnd {x5 : List Int} (h : bnds x5) : ∀ (ws : List S131) {a : Int}, bnd a → bnd (ws.foldl (addW x5) a)
  | [], a, ha => ha
  | w :: ws, a, ha => sum_bnd h ws (addW_bnd h ha w)
theorem cnt_bnd {x5 : List Int} (h : bnds x5) (p : S118) : bnd (cnt x5 p) := sum_bnd h p.f4 ⟨by omega, by omega⟩

theorem sc3 (l : List S118) (a1 : Int) (x5 : List Int) (h5 : bnds x5) (x6 : Int) (x7 : List Int) (i w : Int) (ks : List Int) (hk : ks.length ≤ 1048576) (hok : ∀ x ∈ ks, okK x5.length x) (r : Int)
    (e : Ev (fun k => spec_CountForest.l3 k a1 x5 x6 x7 i w (ks.foldl (mulK x5) 1) ks (ks.length : Int) l) r) : Ev (fun k => spec_CountForest.l3 k a1 x5 x6 x7 i w 1 ks 0 l) r := by
  refine run (fun k c j => spec_CountForest.l3 k a1 x5 x6 x7 i w c ks j l) ks 0 (by omega) (mulK x5) (fun _ c => bnd c) (fun j c r hj hm hc => ⟨mulK_bnd h5 hc _, fun e => ?_⟩) 1 r one_bnd e
  have hy := hok _ hm
  refine Ev.step (fun k => by simp only [spec_CountForest.l3]; rw [if_pos (by omega), if_pos (by omega), rdInt, if_pos hy.1, if_pos (by have := hy.2; omega)]) ?_
  exact Ev.bind (mul_ok hc (bnds_getD h5 _)) e

theorem foldl_set {β : Type} (h : Int → β → Int) (i : Nat) : ∀ (ws : List β) (xs : List Int), i < xs.length → ws.foldl (fun xs w => xs.set i (h (xs.getD i 0) w)) xs = xs.set i (ws.foldl h (xs.getD i 0))
  | [], xs, hi => by simp [List.getD, hi]
  | w :: ws, xs, hi => by
    rw [List.foldl_cons, foldl_set h i ws _ (by simpa using hi), List.foldl_cons, List.set_set]
    simp [List.getD, hi]

theorem sc2 (l : List S118) (hs : small l) (hr : right l) (a1 : Int) (x5 : List Int) (h5 : bnds x5) (hl5 : x5.length = l.length) (x6 : Int) (x7 : List Int) (h7 : x7.length = l.length) (i : Nat) (hi : i < l.length) (h0 : x7.getD i 0 = 0) (r : Int)
    (e : Ev (fun k => spec_CountForest.l1 k a1 x5 x6 (x7.set i (cnt x5 (l.getD i z118))) (wrap64 ((i : Int) + 1)) l) r) : Ev (fun k => spec_CountForest.l1 k a1 x5 x6 x7 (i : Int) l) r := by
  have hl := hs.1
  obtain ⟨hp1, hp2⟩ := hs.2 _ (getD_mem l z118 hi)
  have hrp := hr _ (getD_mem l z118 hi)
  have hti : ((i : Int)).toNat = i := by omega
  refine Ev.step (f := fun k => spec_CountForest.l2 k a1 x5 x6 x7 (i : Int) 0 l) (fun k => by simp only [spec_CountForest.l1]; rw [if_pos (by omega)]) ?_
  refine run (fun k x7 j => spec_CountForest.l2 k a1 x5 x6 x7 (i : Int) j l) ((l.getD i z118).f4) z131 (by omega) (fun xs w => xs.set i (addW x5 (xs.getD i 0) w)) (fun _ xs => xs.length = l.length ∧ bnd (xs.getD i 0)) (fun j xs r hj hm hc => ⟨⟨by simpa using hc.1, ?_⟩, fun e => ?_⟩) x7 r ⟨h7, by rw [h0]; exact ⟨by omega, by omega⟩⟩ ?_
  · have hii : i < xs.length := by have := hc.1; omega
    have : (xs.set i (addW x5 (xs.getD i 0) (((l.getD i z118).f4).getD j z131))).getD i 0 = addW x5 (xs.getD i 0) (((l.getD i z118).f4).getD j z131) := by simp [List.getD, hii]
    rw [this]
    exact addW_bnd h5 hc.2 _
  · have hc1 := hc.1
    refine Ev.step (fun k => by simp only [spec_CountForest.l2]; rw [if_pos (by omega), if_pos (by omega), rdT, if_pos (by omega), if_pos (by omega), rdW]) ?_
    refine sc3 l a1 x5 h5 x6 xs i j _ (hp2 _ hm) (by rw [hl5]; exact hrp _ hm) r ?_
    refine Ev.next e (fun k => ?_)
    simp only [spec_CountForest.l3]
    rw [if_neg (by omega), if_pos (by omega), if_pos (by omega), rdInt, add_ok hc.2 (prod_bnd h5 _ one_bnd), Option.bind_some, hti]
    rfl
  · rw [foldl_set (addW x5) i _ x7 (by omega), h0]
    refine Ev.next e (fun k => ?_)
    simp only [spec_CountForest.l2]
    rw [if_pos (by omega), if_pos (by omega), rdT, if_neg (by omega)]
    rfl

theorem sc1 (l : List S118) (hs : small l) (hr : right l) (a1 : Int) (x5 : List Int) (h5 : bnds x5) (hl5 : x5.length = l.length) (x6 : Int) (r : Int)
    (e : Ev (fun k => spec_CountForest.l0 k a1 (l.map (cnt x5)) (wrap64 (x6 + 1)) l) r) : Ev (fun k => spec_CountForest.l1 k a1 x5 x6 (List.replicate l.length 0) 0 l) r := by
  have hl := hs.1
  refine fillK (fun k xs j => spec_CountForest.l1 k a1 x5 x6 xs j l) l.length (fun i => cnt x5 (l.getD i z118)) (by omega) (fun xs i r hi hx h0 e => sc2 l hs hr a1 x5 h5 hl5 x6 xs hx i hi h0 r e) r ?_
  rw [map_range l z118 (cnt x5)]
  refine Ev.next e (fun k => ?_)
  simp only [spec_CountForest.l1]
  rw [if_neg (by omega)]

theorem mul_mn {x5 : List Int} (h5 : bnds x5) {c : Int} (hc : bnd c) (y : Int) : mn (wrap64 (c * rd x5 y)) 1000000 = mulK x5 c y := by
  obtain ⟨m0, m1⟩ := mul_lim hc (bnds_getD h5 y.toNat)
  have hy : rd x5 y = x5.getD y.toNat 0 := rfl
  rw [hy, w64 (by omega) (by omega)]
  rfl

theorem ic3 (l : List S118) (x5 : List Int) (h5 : bnds x5) (x6 : List Int) (x9 h i : Int) (t : List S118) (n m : Int) (ws : List S131) (wn wj : Int) (ks : List Int) (hk : ks.length ≤ 1048576) (hok : ∀ x ∈ ks, okK x5.length x) (r : Int)
    (e : Ev (fun k => impl_CountForest.l3 k x5 x6 x9 (ks.foldl (mulK x5) 1) h i t n m ws wn wj ks (ks.length : Int) (ks.length : Int) l) r) : Ev (fun k => impl_CountForest.l3 k x5 x6 x9 1 h i t n m ws wn wj ks (ks.length : Int) 0 l) r := by
  refine run (fun k c j => impl_CountForest.l3 k x5 x6 x9 c h i t n m ws wn wj ks (ks.length : Int) j l) ks 0 (by omega) (mulK x5) (fun _ c => bnd c) (fun j c r hj hm hc => ⟨mulK_bnd h5 hc _, fun e => ?_⟩) 1 r one_bnd e
  have hy := hok _ hm
  refine Ev.next e (fun k => ?_)
  simp only [impl_CountForest.l3]
  rw [if_pos (by omega), if_pos (by omega), if_pos (by omega), rdInt, if_pos hy.1, if_pos (by have := hy.2; omega), mul_mn h5 hc]

theorem ic2 (l : List S118) (hs : small l) (hr : right l) (x5 : List Int) (h5 : bnds x5) (hl5 : x5.length = l.length) (x6 : List Int) (h i : Int) (j : Nat) (hj : j < l.length) (r : Int)
    (e : Ev (fun k => impl_CountForest.l2 k x5 x6 (cnt x5 (l.getD j z118)) h i l (l.length : Int) (j : Int) ((l.getD j z118).f4) (((l.getD j z118).f4).length : Int) (((l.getD j z118).f4).length : Int) l) r) :
    Ev (fun k => impl_CountForest.l2 k x5 x6 0 h i l (l.length : Int) (j : Int) ((l.getD j z118).f4) (((l.getD j z118).f4).length : Int) 0 l) r := by
  have hl := hs.1
  obtain ⟨hp1, hp2⟩ := hs.2 _ (getD_mem l z118 hj)
  have hrp := hr _ (getD_mem l z118 hj)
  refine run (fun k a w => impl_CountForest.l2 k x5 x6 a h i l (l.length : Int) (j : Int) ((l.getD j z118).f4) (((l.getD j z118).f4).length : Int) w l) ((l.getD j z118).f4) z131 (by omega) (addW x5) (fun _ a => bnd a) (fun w a r hw hm ha => ⟨addW_bnd h5 ha _, fun e => ?_⟩) 0 r ⟨by omega, by omega⟩ e
  refine Ev.step (fun k => by simp only [impl_CountForest.l2]; rw [if_pos (by omega), if_pos (by omega), if_pos (by omega), rdW]) ?_
  refine ic3 l x5 h5 x6 a h i l _ _ _ _ _ _ (hp2 _ hm) (by rw [hl5]; exact hrp _ hm) r ?_
  refine Ev.next e (fun k => ?_)
  have hb := prod_bnd h5 (((l.getD j z118).f4).getD w z131).f1 one_bnd
  simp only [impl_CountForest.l3]
  rw [if_neg (by omega), w64 (x := a + _) (by have := ha.1; have := hb.1; omega) (by have := ha.2; have := hb.2; omega)]
  rfl

theorem foldl_map {α β : Type} (f : α → β) : ∀ (xs : List α) (a : List β), xs.foldl (fun a x => a ++ [f x]) a = a ++ xs.map f
  | [], a => by simp
  | x :: xs, a => by rw [List.foldl_cons, foldl_map f xs]; simp

theorem ic1 (l : List S118) (hs : small l) (hr : right l) (x5 : List Int) (h5 : bnds x5) (hl5 : x5.length = l.length) (h i : Int) (r : Int)
    (e : Ev (fun k => impl_CountForest.l0 k (l.map (cnt x5)) h (wrap64 (i + 1)) l) r) : Ev (fun k => impl_CountForest.l1 k x5 [] h i l (l.length : Int) 0 l) r := by
  have hl := hs.1
  refine run (fun k x6 j => impl_CountForest.l1 k x5 x6 h i l (l.length : Int) j l) l z118 (by omega) (fun x6 p => x6 ++ [cnt x5 p]) (fun n x6 => x6.length = n) (fun j x6 r hj hm hx => ⟨by simp [hx], fun e => ?_⟩) [] r rfl ?_
  · refine Ev.step (fun k => by simp only [impl_CountForest.l1]; rw [if_pos (by omega), if_pos (by omega), if_pos (by omega), rdT]) ?_
    refine ic2 l hs hr x5 h5 hl5 x6 h i j hj r ?_
    refine Ev.next e (fun k => ?_)
    simp only [impl_CountForest.l2]
    rw [if_neg (by omega), if_pos (by omega)]
  · rw [foldl_map (cnt x5) l [], List.nil_append]
    refine Ev.next e (fun k => ?_)
    simp only [impl_CountForest.l1]
    rw [if_neg (by omega)]

theorem high (a : Int) : spec_l09High.f a = some (mn a 8) := by
  unfold spec_l09High.f mn
  by_cases c : a > 8
  · rw [if_pos c, if_pos (by omega)]
  · rw [if_neg c, if_neg (by omega)]
theorem mn8 (a : Int) : mn a 8 ≤ 8 := by
  unfold mn
  by_cases c : 8 < a
  · rw [if_pos c]; omega
  · rw [if_neg c]; omega

theorem rounds (l : List S118) (hs : small l) (hr : right l) (h0 : 0 < l.length) (a1 : Int) : ∀ (d i : Nat) (x5 : List Int), bnds x5 → x5.length = l.length → (mn a1 8 - (i : Int)).toNat = d →
    ∃ r, Ev (fun k => spec_CountForest.l0 k a1 x5 (i : Int) l) r ∧ Ev (fun k => impl_CountForest.l0 k x5 (mn a1 8) (i : Int) l) r := by
  have hl := hs.1
  have hti : ((l.length : Int)).toNat = l.length := by omega
  intro d
  induction d with
  | zero =>
    intro i x5 h5 hl5 hd
    refine ⟨rd x5 0, Ev.done (fun k => ?_), Ev.done (fun k => ?_)⟩
    · simp only [spec_CountForest.l0]
      rw [high, Option.bind_some, if_neg (by omega), if_pos (by omega)]
    · simp only [impl_CountForest.l0]
      rw [if_neg (by omega), if_pos (by omega)]
  | succ d ih =>
    intro i x5 h5 hl5 hd
    have h8 := mn8 a1
    have hw : wrap64 ((i : Int) + 1) = ((i + 1 : Nat) : Int) := by rw [w64 (by omega) (by omega)]; omega
    obtain ⟨r, e1, e2⟩ := ih (i + 1) (l.map (cnt x5)) (fun x hx => by obtain ⟨p, _, rfl⟩ := List.mem_map.1 hx; exact cnt_bnd h5 p) (by simp) (by omega)
    rw [← hw] at e1 e2
    refine ⟨r, ?_, ?_⟩
    · refine Ev.next (sc1 l hs hr a1 x5 h5 hl5 i r e1) (fun k => ?_)
      simp only [spec_CountForest.l0]
      rw [high, Option.bind_some, if_pos (by omega), if_pos (by omega), hti, if_pos (by omega)]
    · refine Ev.next (ic1 l hs hr x5 h5 hl5 (mn a1 8) i r e2) (fun k => ?_)
      simp only [impl_CountForest.l0]
      rw [if_pos (by omega)]

theorem same {l : List S118} (hs : small l) (a1 : Int) : ∃ r, Ev (fun k => spec_CountForest.f k l a1) r ∧ Ev (fun k => impl_CountForest.f k l a1) r := by
  have hl := hs.1
  have hti : ((l.length : Int)).toNat = l.length := by omega
  unfold spec_CountForest.f impl_CountForest.f
  by_cases h0 : l.length = 0
  · refine ⟨0, ?_, ?_⟩
    · have hr : right l := by intro p hp; rw [List.length_eq_zero_iff.1 h0] at hp; cases hp
      refine Ev.bind ((spec_right l hs).1 hr) ?_
      rw [decide_eq_false (by omega)]
      exact Ev.just (fun k => if_neg Bool.false_ne_true)
    · simp only [if_pos (show (l.length : Int) = 0 by omega)]
      exact Ev.done (fun k => by simp only [impl_CountForest.j0]; exact if_pos trivial)
  · simp only [if_neg (show ¬ (l.length : Int) = 0 by omega)]
    by_cases hr : right l
    · have e1 := (spec_right l hs).1 hr
      rw [decide_eq_true (by omega)] at e1
      have e2 := (impl_right l hs).1 hr
      have hz : bnds (List.replicate l.length 0) := fun x hx => by rw [List.eq_of_mem_replicate hx]; exact ⟨by omega, by omega⟩
      obtain ⟨r, es, ei⟩ := rounds l hs hr (by omega) a1 _ 0 (List.replicate l.length 0) hz (by simp) rfl
      refine ⟨r, Ev.bind e1 (Ev.same es (fun k => ?_)), Ev.bind e2 ?_⟩
      · rw [if_pos rfl, if_pos (by omega), hti, if_pos (by omega)]
        rfl
      · simp only [if_true]
        by_cases ha : a1 < 1
        · have hm : mn a1 8 ≤ 0 := by unfold mn; rw [if_neg (by omega)]; omega
          have hr0 : r = 0 := by
            have : Ev (fun k => impl_CountForest.l0 k (List.replicate l.length 0) (mn a1 8) 0 l) 0 := Ev.done (fun k => by
              simp only [impl_CountForest.l0]
              rw [if_neg (by omega), if_pos (by simp; omega)]
              have : rd (List.replicate l.length 0) 0 = 0 := by unfold rd; simp [List.getD, show (0 : Nat) < l.length by omega]
              rw [this])
            obtain ⟨k1, h1⟩ := ei
            obtain ⟨k2, h2⟩ := this
            have a := h1 (k1 + k2) (by omega)
            have b := h2 (k1 + k2) (by omega)
            have := a.symm.trans b
            exact Option.some.inj this
          rw [decide_eq_true ha, hr0]
          exact Ev.done (fun k => by simp only [impl_CountForest.j0]; exact if_pos trivial)
        · rw [decide_eq_false ha]
          refine Ev.next ei (fun k => ?_)
          simp only [impl_CountForest.j0]
          rw [if_neg Bool.false_ne_true, if_pos (by omega), hti, if_pos (by omega)]
          rfl
    · refine ⟨0, Ev.bind ((spec_right l hs).2 hr) (Ev.just (fun k => if_neg Bool.false_ne_true)), Ev.bind ((impl_right l hs).2 hr) ?_⟩
      simp only [Bool.false_eq_true, if_false]
      exact Ev.done (fun k => by simp only [impl_CountForest.j0]; exact if_pos trivial)
end Go.Proofs.Ytlkbdoejeomlmaa.MFnExactCountForest
