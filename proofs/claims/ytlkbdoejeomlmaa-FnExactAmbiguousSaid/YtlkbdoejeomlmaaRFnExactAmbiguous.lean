/- What is come to from a part: the program's list and the reference's marks go in step. On plain lists, of at most 1048576 places each. -/
import Derived.Test.YtlkbdoejeomlmaaEFnExactAmbiguous
namespace Go.Proofs.Ytlkbdoejeomlmaa.RFnExactAmbiguous
open Go.RowKit Go.Proofs.Ytlkbdoejeomlmaa.PFnExactAmbiguous Go.Proofs.YtlkbdoejeomlmaaPl Go.Proofs.YtlkbdoejeomlmaaW.PrintWords Go.Proofs.YtlkbdoejeomlmaaW.PrintLast
set_option linter.unusedVariables false

theorem within_ok (a b c : Int) : impl_within.f a b c = some (decide (b ≤ a ∧ a ≤ c)) := by
  unfold impl_within.f
  by_cases h : a ≥ b
  · rw [if_pos h]; simp [h]
  · rw [if_neg h]; simp; omega
theorem in_ok (a b c : Int) : spec_l01In.f a b c = some (decide (b ≤ a ∧ a ≤ c)) := by
  unfold spec_l01In.f
  by_cases h : a ≥ b
  · rw [if_pos h]; simp [h]
  · rw [if_neg h]; simp; omega

theorem rdInt (l : List Int) (i : Nat) : rd l (i : Int) = l.getD i 0 := by
  have h : (i : Int).toNat = i := by omega
  unfold rd
  rw [h]

theorem idx_loop (l : List Int) (x : Int) (hn : l.length ≤ 4611686018427387904) : ∃ r : Int, Ev (fun k => slices_Index_int_int.l0 k l x (l.length : Int) 0) r ∧ decide (r ≥ 0) = decide (x ∈ l) := by
  have main : ∀ (d i : Nat), i + d = l.length → ∃ r : Int, Ev (fun k => slices_Index_int_int.l0 k l x (l.length : Int) (i : Int)) r ∧ (r ≥ 0 ↔ x ∈ l.drop i) := by
    intro d
    induction d with
    | zero =>
      intro i h
      refine ⟨-1, Ev.done (fun k => by simp only [slices_Index_int_int.l0]; rw [if_neg (by omega)]), ?_⟩
      rw [List.drop_of_length_le (by omega)]
      simp
    | succ d ih =>
      intro i h
      have hi : i < l.length := by omega
      rw [List.drop_eq_getElem_cons hi]
      have hg : l.getD i 0 = l[i] := by simp [List.getD, hi]
      by_cases hx : x = l[i]
      · refine ⟨i, Ev.done (fun k => ?_), ?_⟩
        · simp only [slices_Index_int_int.l0]
          rw [if_pos (by omega), if_pos (by omega), if_pos (by omega), rdInt, hg, if_pos hx]
        · rw [hx]; simp only [ge_iff_le, Int.natCast_nonneg, List.mem_cons, true_or]
      · obtain ⟨r, e, hr⟩ := ih (i + 1) (by omega)
        refine ⟨r, Ev.next e (fun k => ?_), ?_⟩
        · simp only [slices_Index_int_int.l0]
          rw [if_pos (by omega), if_pos (by omega), if_pos (by omega), rdInt, hg, if_neg hx, up64 hi hn]
        · rw [hr]; simp only [List.mem_cons, hx, false_or]
  obtain ⟨r, e, hr⟩ := main l.length 0 (by omega)
  refine ⟨r, e, ?_⟩
  simp only [List.drop_zero] at hr
  exact decide_eq_decide.2 hr

theorem contains_ok (l : List Int) (x : Int) (hn : l.length ≤ 4611686018427387904) : Ev (fun k => slices_Contains_int_int.f k l x) (decide (x ∈ l)) := by
  obtain ⟨r, e, hr⟩ := idx_loop l x hn
  unfold slices_Contains_int_int.f slices_Index_int_int.f
  refine Ev.bind e ?_
  rw [hr]
  exact Ev.now _

/-- All lists are small. -/
def small (l : List S118) : Prop := l.length ≤ 1048576 ∧ ∀ p ∈ l, p.f4.length ≤ 1048576 ∧ ∀ w ∈ p.f4, w.f1.length ≤ 1048576

/-- The marks, the list and the queue stand together. -/
structure St (l : List S118) (u : Nat) (m : List Bool) (c q : List Int) : Prop where
  ml : m.length = l.length
  mem : ∀ j : Nat, j < l.length → (m.getD j false = true ↔ (j : Int) ∈ c)
  cnt : c.length + u = l.length
  un : m.count false = u
  ql : q.length ≤ c.length + 1
  qr : ∀ x ∈ q, 0 ≤ x ∧ x < (l.length : Int)
  cr : ∀ x ∈ c, 0 ≤ x ∧ x < (l.length : Int)

theorem rdT (l : List S118) (i : Nat) : rd_T118 l (i : Int) = l.getD i z118 := by
  have h : (i : Int).toNat = i := by omega
  unfold rd_T118
  rw [h]
theorem rdW (l : List S131) (i : Nat) : rd_T131 l (i : Int) = l.getD i z131 := by
  have h : (i : Int).toNat = i := by omega
  unfold rd_T131
  rw [h]
theorem rdB (l : List Bool) (i : Nat) : rdOf false l (i : Int) = l.getD i false := by
  have h : (i : Int).toNat = i := by omega
  unfold rdOf
  rw [h]

theorem s2_out (k : Nat) (m : List Bool) (q : List Int) (i w : Int) (ks : List Int) (j : Int) (l : List S118) (h1 : j < (ks.length : Int)) (h2 : 0 ≤ j) (y : Int) (hy : rd ks j = y) (n : Int) (hn : wrap64 ((l.length : Int) - 1) = n) (h3 : ¬ (0 ≤ y ∧ y ≤ n)) :
    spec_l14From.l2 (k + 1) m q i w ks j l = spec_l14From.l2 k m q i w ks (wrap64 (j + 1)) l := by
  simp only [spec_l14From.l2]
  rw [if_pos h1, if_pos h2, hy, hn, in_ok, decide_eq_false h3, Option.bind_some, if_neg Bool.false_ne_true]
theorem s2_seen (k : Nat) (m : List Bool) (q : List Int) (i w : Int) (ks : List Int) (j : Int) (l : List S118) (h1 : j < (ks.length : Int)) (h2 : 0 ≤ j) (y : Int) (hy : rd ks j = y) (n : Int) (hn : wrap64 ((l.length : Int) - 1) = n) (h3 : 0 ≤ y ∧ y ≤ n) (h4 : y < (m.length : Int)) (h5 : rdOf false m y = true) :
    spec_l14From.l2 (k + 1) m q i w ks j l = spec_l14From.l2 k m q i w ks (wrap64 (j + 1)) l := by
  simp only [spec_l14From.l2]
  rw [if_pos h1, if_pos h2, hy, hn, in_ok, decide_eq_true h3, Option.bind_some, if_pos rfl, if_pos h3.1, if_pos h4, if_pos h5]
theorem s2_push (k : Nat) (m : List Bool) (q : List Int) (i w : Int) (ks : List Int) (j : Int) (l : List S118) (h1 : j < (ks.length : Int)) (h2 : 0 ≤ j) (y : Int) (hy : rd ks j = y) (n : Int) (hn : wrap64 ((l.length : Int) - 1) = n) (h3 : 0 ≤ y ∧ y ≤ n) (h4 : y < (m.length : Int)) (h5 : ¬ (rdOf false m y = true)) (h6 : q.length < 17592186044416) :
    spec_l14From.l2 (k + 1) m q i w ks j l = spec_l14From.l2 k (m.set y.toNat true) (q ++ [y]) i w ks (wrap64 (j + 1)) l := by
  simp only [spec_l14From.l2]
  rw [if_pos h1, if_pos h2, hy, hn, in_ok, decide_eq_true h3, Option.bind_some, if_pos rfl, if_pos h3.1, if_pos h4, if_neg h5, if_pos h6]

theorem e2_out {r : List Bool} (m : List Bool) (q : List Int) (i w : Int) (ks : List Int) (j : Nat) (l : List S118) (hj : j < ks.length) (hk : ks.length ≤ 1048576) (hn : wrap64 ((l.length : Int) - 1) = (l.length : Int) - 1) (h3 : ¬ (0 ≤ ks.getD j 0 ∧ ks.getD j 0 ≤ (l.length : Int) - 1))
    (e : Ev (fun k => spec_l14From.l2 k m q i w ks ((j + 1 : Nat) : Int) l) r) : Ev (fun k => spec_l14From.l2 k m q i w ks (j : Int) l) r := by
  rw [← up64 hj (by omega)] at e
  exact Ev.next e (fun k => s2_out k m q i w ks j l (by omega) (by omega) _ (rdInt ks j) _ hn h3)
theorem e2_seen {r : List Bool} (m : List Bool) (q : List Int) (i w : Int) (ks : List Int) (j x : Nat) (l : List S118) (hj : j < ks.length) (hk : ks.length ≤ 1048576) (hn : wrap64 ((l.length : Int) - 1) = (l.length : Int) - 1) (hx : ks.getD j 0 = (x : Int)) (h3 : x < l.length) (hm : m.length = l.length) (h5 : m.getD x false = true)
    (e : Ev (fun k => spec_l14From.l2 k m q i w ks ((j + 1 : Nat) : Int) l) r) : Ev (fun k => spec_l14From.l2 k m q i w ks (j : Int) l) r := by
  rw [← up64 hj (by omega)] at e
  exact Ev.next e (fun k => s2_seen k m q i w ks j l (by omega) (by omega) (x : Int) (by rw [rdInt, hx]) _ hn (by omega) (by omega) (by rw [rdB]; exact h5))
theorem e2_push {r : List Bool} (m : List Bool) (q : List Int) (i w : Int) (ks : List Int) (j x : Nat) (l : List S118) (hj : j < ks.length) (hk : ks.length ≤ 1048576) (hn : wrap64 ((l.length : Int) - 1) = (l.length : Int) - 1) (hx : ks.getD j 0 = (x : Int)) (h3 : x < l.length) (hm : m.length = l.length) (h5 : ¬ (m.getD x false = true)) (h6 : q.length < 17592186044416)
    (e : Ev (fun k => spec_l14From.l2 k (m.set x true) (q ++ [(x : Int)]) i w ks ((j + 1 : Nat) : Int) l) r) : Ev (fun k => spec_l14From.l2 k m q i w ks (j : Int) l) r := by
  rw [← up64 hj (by omega)] at e
  have hxn : ((x : Int)).toNat = x := by omega
  refine Ev.next e (fun k => ?_)
  have := s2_push k m q i w ks j l (by omega) (by omega) (x : Int) (by rw [rdInt, hx]) _ hn (by omega) (by omega) (by rw [rdB]; exact h5) h6
  rw [hxn] at this
  exact this

theorem c2_out {r : List Int} (c q : List Int) (ws : List S131) (n w : Int) (ks : List Int) (j : Nat) (l : List S118) (hj : j < ks.length) (hk : ks.length ≤ 1048576) (hn : wrap64 ((l.length : Int) - 1) = (l.length : Int) - 1) (h3 : ¬ (0 ≤ ks.getD j 0 ∧ ks.getD j 0 ≤ (l.length : Int) - 1))
    (e : Ev (fun k => impl_comeTo.l2 k c q ws n w ks (ks.length : Int) ((j + 1 : Nat) : Int) l) r) : Ev (fun k => impl_comeTo.l2 k c q ws n w ks (ks.length : Int) (j : Int) l) r := by
  rw [← up64 hj (by omega)] at e
  have h1 : (j : Int) < (ks.length : Int) := by omega
  have h2 : (0 : Int) ≤ (j : Int) := by omega
  refine Ev.next e (fun k => ?_)
  simp only [impl_comeTo.l2]
  rw [if_pos h1, if_pos h2, rdInt, within_ok, hn, decide_eq_false h3, Option.bind_some, if_neg Bool.false_ne_true, if_pos h1]
theorem c2_in {r : List Int} (c q : List Int) (ws : List S131) (n w : Int) (ks : List Int) (j x : Nat) (l : List S118) (hj : j < ks.length) (hk : ks.length ≤ 1048576) (hn : wrap64 ((l.length : Int) - 1) = (l.length : Int) - 1) (hx : ks.getD j 0 = (x : Int)) (h3 : x < l.length) (hc : c.length ≤ 4611686018427387904)
    (e : Ev (fun k => if decide ((x : Int) ∈ c) = true then (impl_comeTo.l2 k c q ws n w ks (ks.length : Int) ((j + 1 : Nat) : Int) l) else (if c.length < 17592186044416 then (if q.length < 17592186044416 then (impl_comeTo.l2 k (c ++ [(x : Int)]) (q ++ [(x : Int)]) ws n w ks (ks.length : Int) ((j + 1 : Nat) : Int) l) else none) else none)) r) : Ev (fun k => impl_comeTo.l2 k c q ws n w ks (ks.length : Int) (j : Int) l) r := by
  rw [← up64 hj (by omega)] at e
  have h1 : (j : Int) < (ks.length : Int) := by omega
  have h2 : (0 : Int) ≤ (j : Int) := by omega
  have h4 : (0 : Int) ≤ (x : Int) ∧ (x : Int) ≤ (l.length : Int) - 1 := by omega
  refine Ev.step (fun k => by simp only [impl_comeTo.l2]; rw [if_pos h1, if_pos h2, rdInt, within_ok, hn, hx, decide_eq_true h4, Option.bind_some, if_pos rfl, if_pos h1]) ?_
  exact Ev.bind (contains_ok c x hc) e

/-- From a queue on both end, and what they end with stands together. -/
def L0 (l : List S118) (m : List Bool) (c q : List Int) : Prop := ∃ m' c' u', Ev (fun k => spec_l14From.l0 k m q l) m' ∧ Ev (fun k => impl_comeTo.l0 k c q l) c' ∧ St l u' m' c' []

theorem count_set {m : List Bool} {j : Nat} (hj : j < m.length) (h : m.getD j false = false) : (m.set j true).count false + 1 = m.count false := by
  induction m generalizing j with
  | nil => simp at hj
  | cons a m ih =>
    cases j with
    | zero =>
      have : a = false := by simpa using h
      subst this
      simp
    | succ j =>
      have := ih (j := j) (by simpa using hj) (by simpa using h)
      cases a <;> simp_all <;> omega

theorem push {l : List S118} {u : Nat} {m : List Bool} {c q : List Int} {j : Nat} (s : St l u m c q) (hj : j < l.length) (h : m.getD j false = false) :
    ∃ v, v + 1 = u ∧ St l v (m.set j true) (c ++ [(j : Int)]) (q ++ [(j : Int)]) := by
  have hc := count_set (m := m) (j := j) (by rw [s.ml]; exact hj) h
  refine ⟨(m.set j true).count false, by rw [hc]; exact s.un, ⟨by rw [List.length_set]; exact s.ml, ?_, ?_, rfl, ?_, ?_, ?_⟩⟩
  · intro i hi
    by_cases hij : i = j
    · subst hij
      have : i < m.length := by rw [s.ml]; exact hi
      simp [List.getD, this]
    · have h1 : (m.set j true).getD i false = m.getD i false := by simp [List.getD, Ne.symm hij]
      rw [h1, s.mem i hi]
      simp
      intro h2; omega
  · have := s.un; have := s.cnt; simp; omega
  · have := s.ql; simp; omega
  · intro x hx
    rcases List.mem_append.1 hx with hx | hx
    · exact s.qr x hx
    · rw [List.mem_singleton.1 hx]; omega
  · intro x hx
    rcases List.mem_append.1 hx with hx | hx
    · exact s.cr x hx
    · rw [List.mem_singleton.1 hx]; omega

section
variable {l : List S118} (hs : small l)
include hs

/-- The kids of a way, from j on. -/
theorem kids_go (i w : Nat) (hi : i < l.length) (hw : w < (l.getD i z118).f4.length) (u : Nat)
    (IH : ∀ v, v < u → ∀ m c q, St l v m c q → ∀ d' w', w' + d' = (l.getD i z118).f4.length →
      ∃ m' c' u', Ev (fun k => spec_l14From.l1 k m q (i : Int) (w' : Int) l) m' ∧ Ev (fun k => impl_comeTo.l1 k c q (l.getD i z118).f4 ((l.getD i z118).f4.length : Int) (w' : Int) l) c' ∧ St l u' m' c' [])
    (IHk : ∀ v, v < u → ∀ m c q, St l v m c q → ∀ d j, j + d = ((l.getD i z118).f4.getD w z131).f1.length →
      ∃ m' c' u', Ev (fun k => spec_l14From.l2 k m q (i : Int) (w : Int) ((l.getD i z118).f4.getD w z131).f1 (j : Int) l) m' ∧
        Ev (fun k => impl_comeTo.l2 k c q (l.getD i z118).f4 ((l.getD i z118).f4.length : Int) (w : Int) ((l.getD i z118).f4.getD w z131).f1 (((l.getD i z118).f4.getD w z131).f1.length : Int) (j : Int) l) c' ∧ St l u' m' c' [])
    (m : List Bool) (c q : List Int) (st : St l u m c q)
    (next : ∃ m' c' u', Ev (fun k => spec_l14From.l1 k m q (i : Int) (wrap64 ((w : Int) + 1)) l) m' ∧ Ev (fun k => impl_comeTo.l1 k c q (l.getD i z118).f4 ((l.getD i z118).f4.length : Int) (wrap64 ((w : Int) + 1)) l) c' ∧ St l u' m' c' []) (d : Nat) :
    ∀ j, j + d = ((l.getD i z118).f4.getD w z131).f1.length →
      ∃ m' c' u', Ev (fun k => spec_l14From.l2 k m q (i : Int) (w : Int) ((l.getD i z118).f4.getD w z131).f1 (j : Int) l) m' ∧
        Ev (fun k => impl_comeTo.l2 k c q (l.getD i z118).f4 ((l.getD i z118).f4.length : Int) (w : Int) ((l.getD i z118).f4.getD w z131).f1 (((l.getD i z118).f4.getD w z131).f1.length : Int) (j : Int) l) c' ∧ St l u' m' c' [] := by
  obtain ⟨hn, hp⟩ := hs
  have hwl := (hp _ (getD_mem l z118 hi)).2 _ (getD_mem (l.getD i z118).f4 z131 hw)
  have hfl := (hp _ (getD_mem l z118 hi)).1
  have hcl := st.cnt
  have hql := st.ql
  have hlw : wrap64 ((l.length : Int) - 1) = (l.length : Int) - 1 := w64 (by omega) (by omega)
  generalize hks : ((l.getD i z118).f4.getD w z131).f1 = ks at *
  induction d with
  | zero =>
    intro j hj
    obtain ⟨m', c', u', e1, e2, s'⟩ := next
    exact ⟨m', c', u', Ev.next e1 (fun k => by simp only [spec_l14From.l2]; rw [if_neg (by omega)]), Ev.next e2 (fun k => by simp only [impl_comeTo.l2]; rw [if_neg (by omega)]), s'⟩
  | succ d ih =>
    intro j hj
    have hjl : j < ks.length := by omega
    have hwj : wrap64 ((j : Int) + 1) = ((j + 1 : Nat) : Int) := up64 hjl (by omega)
    by_cases hin : 0 ≤ ks.getD j 0 ∧ ks.getD j 0 ≤ (l.length : Int) - 1
    · obtain ⟨x, hx⟩ : ∃ x : Nat, ks.getD j 0 = (x : Int) := ⟨(ks.getD j 0).toNat, by omega⟩
      have hxl : x < l.length := by omega
      by_cases hmk : m.getD x false = true
      · obtain ⟨m', c', u', e1, e2, s'⟩ := ih (j + 1) (by omega)
        have hc : decide ((x : Int) ∈ c) = true := decide_eq_true ((st.mem x hxl).1 hmk)
        refine ⟨m', c', u', e2_seen m q i w ks j x l hjl hwl hlw hx hxl st.ml hmk e1, ?_, s'⟩
        · refine c2_in c q _ _ w ks j x l hjl hwl hlw hx hxl (by omega) ?_
          simp only [if_pos hc]
          exact e2
      · have hmk' : m.getD x false = false := by simpa using hmk
        obtain ⟨v, hv, sv⟩ := push st hxl hmk'
        obtain ⟨m', c', u', e1, e2, s'⟩ := IHk v (by omega) _ _ _ sv d (j + 1) (by omega)
        have hc : decide ((x : Int) ∈ c) = false := decide_eq_false (fun h => hmk ((st.mem x hxl).2 h))
        have hxn : ((x : Int)).toNat = x := by omega
        refine ⟨m', c', u', e2_push m q i w ks j x l hjl hwl hlw hx hxl st.ml hmk (by omega) e1, ?_, s'⟩
        · refine c2_in c q _ _ w ks j x l hjl hwl hlw hx hxl (by omega) ?_
          have h1 : c.length < 17592186044416 := by omega
          have h2 : q.length < 17592186044416 := by omega
          simp only [if_neg (show ¬ (decide ((x : Int) ∈ c) = true) from by rw [hc]; exact Bool.false_ne_true), if_pos h1, if_pos h2]
          exact e2
    · obtain ⟨m', c', u', e1, e2, s'⟩ := ih (j + 1) (by omega)
      refine ⟨m', c', u', e2_out m q i w ks j l hjl hwl hlw hin e1, c2_out c q _ _ w ks j l hjl hwl hlw hin e2, s'⟩
end

/-- All that follows, by how many are not marked yet, then by the queue's length, then by the ways and kids that are left. -/
theorem all_go {l : List S118} (hs : small l) (u : Nat) :
    ∀ m c q, St l u m c q → L0 l m c q ∧ ∀ i : Nat, i < l.length → (∀ d w, w + d = (l.getD i z118).f4.length →
      ∃ m' c' u', Ev (fun k => spec_l14From.l1 k m q (i : Int) (w : Int) l) m' ∧ Ev (fun k => impl_comeTo.l1 k c q (l.getD i z118).f4 ((l.getD i z118).f4.length : Int) (w : Int) l) c' ∧ St l u' m' c' []) ∧
      (∀ w, w < (l.getD i z118).f4.length → ∀ d j, j + d = ((l.getD i z118).f4.getD w z131).f1.length →
        ∃ m' c' u', Ev (fun k => spec_l14From.l2 k m q (i : Int) (w : Int) ((l.getD i z118).f4.getD w z131).f1 (j : Int) l) m' ∧
          Ev (fun k => impl_comeTo.l2 k c q (l.getD i z118).f4 ((l.getD i z118).f4.length : Int) (w : Int) ((l.getD i z118).f4.getD w z131).f1 (((l.getD i z118).f4.getD w z131).f1.length : Int) (j : Int) l) c' ∧ St l u' m' c' []) := by
  induction u using Nat.strongRecOn with
  | _ u IHu =>
  -- the ways and kids, once what follows the last way is known
  have ways : ∀ m c q, St l u m c q → L0 l m c q → ∀ i : Nat, i < l.length → (∀ d w, w + d = (l.getD i z118).f4.length →
      ∃ m' c' u', Ev (fun k => spec_l14From.l1 k m q (i : Int) (w : Int) l) m' ∧ Ev (fun k => impl_comeTo.l1 k c q (l.getD i z118).f4 ((l.getD i z118).f4.length : Int) (w : Int) l) c' ∧ St l u' m' c' []) ∧
      (∀ w, w < (l.getD i z118).f4.length → ∀ d j, j + d = ((l.getD i z118).f4.getD w z131).f1.length →
        ∃ m' c' u', Ev (fun k => spec_l14From.l2 k m q (i : Int) (w : Int) ((l.getD i z118).f4.getD w z131).f1 (j : Int) l) m' ∧
          Ev (fun k => impl_comeTo.l2 k c q (l.getD i z118).f4 ((l.getD i z118).f4.length : Int) (w : Int) ((l.getD i z118).f4.getD w z131).f1 (((l.getD i z118).f4.getD w z131).f1.length : Int) (j : Int) l) c' ∧ St l u' m' c' []) := by
    intro m c q st h0 i hi
    have hfl := (hs.2 _ (getD_mem l z118 hi)).1
    have hn := hs.1
    have kids : ∀ w, (hw : w < (l.getD i z118).f4.length) → (∃ m' c' u', Ev (fun k => spec_l14From.l1 k m q (i : Int) (wrap64 ((w : Int) + 1)) l) m' ∧ Ev (fun k => impl_comeTo.l1 k c q (l.getD i z118).f4 ((l.getD i z118).f4.length : Int) (wrap64 ((w : Int) + 1)) l) c' ∧ St l u' m' c' []) → ∀ d j, j + d = ((l.getD i z118).f4.getD w z131).f1.length →
        ∃ m' c' u', Ev (fun k => spec_l14From.l2 k m q (i : Int) (w : Int) ((l.getD i z118).f4.getD w z131).f1 (j : Int) l) m' ∧
          Ev (fun k => impl_comeTo.l2 k c q (l.getD i z118).f4 ((l.getD i z118).f4.length : Int) (w : Int) ((l.getD i z118).f4.getD w z131).f1 (((l.getD i z118).f4.getD w z131).f1.length : Int) (j : Int) l) c' ∧ St l u' m' c' [] :=
      fun w hw next d => kids_go hs i w hi hw u (fun v hv m c q s => ((IHu v hv m c q s).2 i hi).1) (fun v hv m c q s => ((IHu v hv m c q s).2 i hi).2 w hw) m c q st next d
    have ws : ∀ d w, w + d = (l.getD i z118).f4.length →
      ∃ m' c' u', Ev (fun k => spec_l14From.l1 k m q (i : Int) (w : Int) l) m' ∧ Ev (fun k => impl_comeTo.l1 k c q (l.getD i z118).f4 ((l.getD i z118).f4.length : Int) (w : Int) l) c' ∧ St l u' m' c' [] := by
      intro d
      induction d with
      | zero =>
        intro w hw
        obtain ⟨m', c', u', e1, e2, s'⟩ := h0
        refine ⟨m', c', u', Ev.next e1 (fun k => ?_), Ev.next e2 (fun k => ?_), s'⟩
        · simp only [spec_l14From.l1]
          rw [if_pos (by omega), if_pos (by omega), rdT, if_neg (by omega)]
        · simp only [impl_comeTo.l1]
          rw [if_neg (by omega)]
      | succ d ih =>
        intro w hw
        have hwl : w < (l.getD i z118).f4.length := by omega
        have hww : wrap64 ((w : Int) + 1) = ((w + 1 : Nat) : Int) := up64 hwl (by omega)
        have next := ih (w + 1) (by omega)
        rw [← hww] at next
        obtain ⟨m', c', u', e1, e2, s'⟩ := kids w hwl next ((l.getD i z118).f4.getD w z131).f1.length 0 (by omega)
        refine ⟨m', c', u', Ev.next e1 (fun k => ?_), Ev.next e2 (fun k => ?_), s'⟩
        · simp only [spec_l14From.l1]
          rw [if_pos (by omega), if_pos (by omega), rdT, if_pos (by omega), if_pos (by omega), rdW]
          rfl
        · simp only [impl_comeTo.l1]
          rw [if_pos (by omega), if_pos (by omega), if_pos (by omega), rdW]
          rfl
    refine ⟨ws, fun w hw d j hj => ?_⟩
    have hww : wrap64 ((w : Int) + 1) = ((w + 1 : Nat) : Int) := up64 hw (by omega)
    have next := ws ((l.getD i z118).f4.length - (w + 1)) (w + 1) (by omega)
    rw [← hww] at next
    exact kids w hw next d j hj
  -- the queue
  have queue : ∀ (n : Nat) m c q, q.length = n → St l u m c q → L0 l m c q := by
    intro n
    induction n with
    | zero =>
      intro m c q hq st
      have hq0 : q = [] := List.length_eq_zero_iff.1 hq
      subst hq0
      exact ⟨m, c, u, Ev.done (fun k => by simp only [spec_l14From.l0]; rw [if_neg (by simp)]), Ev.done (fun k => by simp only [impl_comeTo.l0]; rw [if_neg (by simp)]), st⟩
    | succ n ih =>
      intro m c q hq st
      match q, hq, st with
      | x :: q', hq, st =>
        have hq' : q'.length = n := by simpa using hq
        have hx := st.qr x (by simp)
        obtain ⟨i, hi⟩ : ∃ i : Nat, x = (i : Int) := ⟨x.toNat, by omega⟩
        subst hi
        have hil : i < l.length := by omega
        have hn := hs.1
        have hcl := st.cnt
        have hql := st.ql
        simp only [List.length_cons] at hql
        have st' : St l u m c q' := ⟨st.ml, st.mem, st.cnt, st.un, by omega, fun y hy => st.qr y (by simp [hy]), st.cr⟩
        obtain ⟨m', c', u', e1, e2, s'⟩ := (ways m c q' st' (ih m c q' hq' st') i hil).1 (l.getD i z118).f4.length 0 (by omega)
        have hlw : wrap64 ((l.length : Int) - 1) = (l.length : Int) - 1 := w64 (by omega) (by omega)
        have hr0 : rd ((i : Int) :: q') 0 = (i : Int) := rfl
        refine ⟨m', c', u', Ev.next e1 (fun k => ?_), Ev.next e2 (fun k => ?_), s'⟩
        · simp only [spec_l14From.l0, List.length_cons, List.drop_succ_cons, List.drop_zero, Option.bind_some, List.length_nil, List.nil_append]
          rw [if_pos (by omega), if_pos (by omega), if_pos (by omega), if_pos (by omega), hr0, in_ok, hlw, decide_eq_true ⟨by omega, by omega⟩, Option.bind_some, if_pos rfl]
          rfl
        · simp only [impl_comeTo.l0, List.length_cons]
          rw [if_pos (by omega), if_pos (by omega), hr0, if_pos (by omega), if_pos (by omega), if_pos (by omega), rdT]
          rfl
  intro m c q st
  exact ⟨queue q.length m c q rfl st, ways m c q st (queue q.length m c q rfl st)⟩

/-- What is come to from place i: marks and a list that tell the same. -/
theorem reach {l : List S118} (hs : small l) (i : Nat) (hi : i < l.length) :
    ∃ m c, Ev (fun k => spec_l14From.f k l (i : Int)) m ∧ Ev (fun k => impl_comeTo.f k l (i : Int)) c ∧ m.length = l.length ∧ c.length ≤ l.length ∧ (∀ j : Nat, j < l.length → (m.getD j false = true ↔ (j : Int) ∈ c)) ∧ (∀ x ∈ c, 0 ≤ x ∧ x < (l.length : Int)) := by
  have hn := hs.1
  have st : St l l.length (List.replicate l.length false) [] [(i : Int)] := ⟨by simp, fun j hj => by simp [List.getD, hj], by simp, by simp, by simp, fun x hx => by rw [List.mem_singleton.1 hx]; omega, fun x hx => by simp at hx⟩
  obtain ⟨m, c, u, e1, e2, s⟩ := (all_go hs l.length _ _ _ st).1
  have hz : ((l.length : Int)).toNat = l.length := by omega
  have e0 : (0 : Int) ≤ (l.length : Int) := by omega
  have e1' : ((l.length : Int)).toNat ≤ 281474976710656 := by omega
  refine ⟨m, c, ?_, ?_, s.ml, by have := s.cnt; omega, s.mem, ?_⟩
  · unfold spec_l14From.f
    simp only [if_pos e0, if_pos e1']
    rw [hz]
    exact e1
  · exact e2
  · exact s.cr
end Go.Proofs.Ytlkbdoejeomlmaa.RFnExactAmbiguous
