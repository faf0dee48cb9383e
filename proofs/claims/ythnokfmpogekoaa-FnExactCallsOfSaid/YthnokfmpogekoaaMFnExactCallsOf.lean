/- What a rule of a grammar calls: sorted and compacted, or put in its place one by one: it comes to the same. Plain lists; no condition. -/
import Derived.Test.YthnokfmpogekoaaEFnExactCallsOf
import Derived.Test.YthnokfmpogekoaaLp
import Derived.Sort.Walk0
import Derived.Lib.SlicesCompact
namespace Go.Proofs.Ythnokfmpogekoaa.MFnExactCallsOf
open Go.RowKit Go.Proofs.Ythnokfmpogekoaa.PFnExactCallsOf Go.Proofs.Ythnokfmpogekoaa.EFnExactCallsOf Go.Proofs.YthnokfmpogekoaaPl Go.Proofs.YthnokfmpogekoaaLp Go.Proofs.YthnokfmpogekoaaW.PrintWords Go.Proofs.YthnokfmpogekoaaW.PrintLast Go.Proofs.YthnokfmpogekoaaW.PrintMore
set_option linter.unusedVariables false
set_option linter.unusedSimpArgs false

/-! ### plain lists -/
theorem lt_of_le_ne {a b : List UInt8} (h : a ≤ b) (hn : a ≠ b) : a < b := by
  by_cases h2 : a < b
  · exact h2
  · exact absurd (List.le_antisymm h (List.not_lt.1 h2)) hn
theorem comp_inv (d : Array (List UInt8)) (hs : ∀ i j, i ≤ j → j < d.size → d[i]! ≤ d[j]!) : ∀ m, m ≤ d.size → (Go.Lib.compactUpTo d m).Pairwise (· < ·) ∧ ∀ x, x ∈ Go.Lib.compactUpTo d m ↔ ∃ j, j < m ∧ d[j]! = x := by
  intro m
  induction m with
  | zero => intro _; simp [Go.Lib.compactUpTo]
  | succ m ih =>
    intro hm
    obtain ⟨h1, h2⟩ := ih (by omega)
    rw [Go.Lib.compactUpTo_succ]
    by_cases hk : m = 0 ∨ d[m]! ≠ d[m - 1]!
    · have : Go.Lib.keeps d m = true := by simp [Go.Lib.keeps, hk]
      rw [this, if_pos rfl]
      refine ⟨List.pairwise_append.2 ⟨h1, List.pairwise_singleton _ _, fun a ha b hb => ?_⟩, fun x => ?_⟩
      · obtain ⟨j, hj, rfl⟩ := (h2 a).1 ha
        rw [List.mem_singleton.1 hb]
        rcases hk with rfl | hk
        · omega
        · have l1 := hs j (m - 1) (by omega) (by omega)
          have l2 := lt_of_le_ne (hs (m - 1) m (by omega) (by omega)) (fun e => hk e.symm)
          by_cases e : d[j]! = d[m - 1]!
          · rw [e]; exact l2
          · exact List.lt_trans (lt_of_le_ne l1 e) l2
      · rw [List.mem_append, h2, List.mem_singleton]
        constructor
        · rintro (⟨j, hj, rfl⟩ | rfl)
          · exact ⟨j, by omega, rfl⟩
          · exact ⟨m, by omega, rfl⟩
        · rintro ⟨j, hj, rfl⟩
          by_cases e : j = m
          · subst e; exact .inr rfl
          · exact .inl ⟨j, by omega, rfl⟩
    · have : Go.Lib.keeps d m = false := by simp [Go.Lib.keeps]; simpa [not_or] using hk
      rw [this, if_neg (by decide), List.append_nil]
      refine ⟨h1, fun x => ?_⟩
      rw [h2]
      have h0 : m ≠ 0 ∧ d[m]! = d[m - 1]! := by simpa [not_or] using hk
      constructor
      · rintro ⟨j, hj, rfl⟩; exact ⟨j, by omega, rfl⟩
      · rintro ⟨j, hj, rfl⟩
        by_cases e : j = m
        · subst e; exact ⟨j - 1, by omega, h0.2.symm⟩
        · exact ⟨j, by omega, rfl⟩
theorem compact_sorted (zs : List (List UInt8)) (hs : zs.Pairwise (· ≤ ·)) : (Go.Lib.compact zs).Pairwise (· < ·) ∧ ∀ x, x ∈ Go.Lib.compact zs ↔ x ∈ zs := by
  have hd : ∀ i j, i ≤ j → j < zs.toArray.size → zs.toArray[i]! ≤ zs.toArray[j]! := by
    intro i j hij hj
    have hj' : j < zs.length := by simpa using hj
    rw [getElem!_pos _ i (by simp; omega), getElem!_pos _ j (by simpa using hj')]
    rcases Nat.lt_or_eq_of_le hij with h | h
    · have := List.pairwise_iff_getElem.1 hs i j (by omega) hj' h
      simpa using this
    · subst h; exact List.le_refl _
  obtain ⟨h1, h2⟩ := comp_inv zs.toArray hd zs.length (by simp)
  refine ⟨h1, fun x => (h2 x).trans ?_⟩
  rw [List.mem_iff_getElem]
  constructor
  · rintro ⟨j, hj, rfl⟩; exact ⟨j, hj, by rw [getElem!_pos _ j (by simpa using hj)]; simp⟩
  · rintro ⟨j, hj, rfl⟩; exact ⟨j, hj, by rw [getElem!_pos _ j (by simpa using hj)]; simp⟩
theorem strict_unique {l1 l2 : List (List UInt8)} (h1 : l1.Pairwise (· < ·)) (h2 : l2.Pairwise (· < ·)) (hm : ∀ x, x ∈ l1 ↔ x ∈ l2) : l1 = l2 := by
  have nd : ∀ {l : List (List UInt8)}, l.Pairwise (· < ·) → l.Nodup := fun h => h.imp (fun hlt e => by subst e; exact List.lt_irrefl _ hlt)
  have le : ∀ {l : List (List UInt8)}, l.Pairwise (· < ·) → l.Pairwise (fun a b => a ≤ b) := fun h => h.imp (fun hlt => List.le_of_lt hlt)
  exact List.Perm.eq_of_pairwise (le := fun a b => a ≤ b) (fun a b _ _ x y => List.le_antisymm x y) (le h1) (le h2) ((List.perm_ext_iff_of_nodup (nd h1) (nd h2)).2 hm)
def putB (l : List (List UInt8)) (s : List UInt8) : List (List UInt8) := l.filter (fun x => decide (x < s)) ++ [s] ++ l.filter (fun x => decide (s < x))
theorem putB_ok {l : List (List UInt8)} {s : List UInt8} (h : l.Pairwise (· < ·)) : (putB l s).Pairwise (· < ·) ∧ ∀ x, x ∈ putB l s ↔ x ∈ l ∨ x = s := by
  constructor
  · refine List.pairwise_append.2 ⟨List.pairwise_append.2 ⟨h.filter _, List.pairwise_singleton _ _, fun a ha b hb => ?_⟩, h.filter _, fun a ha b hb => ?_⟩
    · rw [List.mem_singleton.1 hb]
      simpa using (List.mem_filter.1 ha).2
    · have hb2 : s < b := by simpa using (List.mem_filter.1 hb).2
      rcases List.mem_append.1 ha with ha | ha
      · exact List.lt_trans (by simpa using (List.mem_filter.1 ha).2) hb2
      · rw [List.mem_singleton.1 ha]; exact hb2
  · intro x
    simp only [putB, List.mem_append, List.mem_filter, List.mem_singleton, decide_eq_true_eq]
    constructor
    · rintro ((⟨h, _⟩ | h) | ⟨h, _⟩)
      · exact .inl h
      · exact .inr h
      · exact .inl h
    · rintro (h | h)
      · by_cases e : x = s
        · exact .inl (.inr e)
        · by_cases hlt : x < s
          · exact .inl (.inl ⟨h, hlt⟩)
          · exact .inr ⟨h, lt_of_le_ne (List.not_lt.1 hlt) (fun e2 => e e2.symm)⟩
      · exact .inl (.inr h)
theorem fold_putB : ∀ (ns l : List (List UInt8)), l.Pairwise (· < ·) → (ns.foldl putB l).Pairwise (· < ·) ∧ ∀ x, x ∈ ns.foldl putB l ↔ x ∈ l ∨ x ∈ ns
  | [], l, h => ⟨h, fun x => by simp⟩
  | n :: ns, l, h => by
    obtain ⟨h1, h2⟩ := putB_ok (s := n) h
    obtain ⟨g1, g2⟩ := fold_putB ns (putB l n) h1
    refine ⟨g1, fun x => ?_⟩
    rw [List.foldl_cons, g2, h2, List.mem_cons, or_assoc]
theorem sort_is_put (ns : List (List UInt8)) : Go.Lib.compact (ns.mergeSort fun x y => decide (x ≤ y)) = ns.foldl putB [] := by
  have tr : ∀ a b c : List UInt8, decide (a ≤ b) = true → decide (b ≤ c) = true → decide (a ≤ c) = true := fun a b c h1 h2 => by simp only [decide_eq_true_eq] at *; exact List.le_trans h1 h2
  have tot : ∀ a b : List UInt8, (decide (a ≤ b) || decide (b ≤ a)) = true := fun a b => by simp only [Bool.or_eq_true, decide_eq_true_eq]; exact List.le_total a b
  have hp : (ns.mergeSort fun x y => decide (x ≤ y)).Pairwise (· ≤ ·) := (List.pairwise_mergeSort tr tot ns).imp (fun h => by simpa using h)
  obtain ⟨h1, h2⟩ := compact_sorted _ hp
  obtain ⟨g1, g2⟩ := fold_putB ns [] List.Pairwise.nil
  refine strict_unique h1 g1 (fun x => ?_)
  rw [h2, g2, (List.mergeSort_perm ns _).mem_iff]
  simp

/-! ### the reference's list -/
def putL (l : List ByteArray) (s : ByteArray) : List ByteArray := l.filter (fun x => Op.bytesLess x.toList s.toList) ++ [s] ++ l.filter (fun x => Op.bytesLess s.toList x.toList)
theorem bytes_putL (l : List ByteArray) (s : ByteArray) : bytesOf_ (putL l s) = putB (bytesOf_ l) s.data.toList := by
  have e : ∀ x y : ByteArray, Op.bytesLess x.toList y.toList = decide (x.data.toList < y.data.toList) := fun x y => by rw [Go.Proofs.bytesLess_eq, toList_eq, toList_eq]
  simp only [bytesOf_, putL, putB, List.map_append, List.filter_map, Function.comp_def, e]
  rfl
theorem bytes_fold (ns : List ByteArray) : ∀ l : List ByteArray, bytesOf_ (ns.foldl putL l) = (bytesOf_ ns).foldl putB (bytesOf_ l) := by
  induction ns with
  | nil => intro l; rfl
  | cons n ns ih => intro l; rw [List.foldl_cons, ih, bytes_putL]; rfl
theorem fold_is_sorted (ns : List ByteArray) : strsOf_ (Go.Lib.compact ((bytesOf_ ns).mergeSort fun x y => decide (x ≤ y))) = ns.foldl putL [] := by
  rw [sort_is_put, ← strsOf_bytesOf_ (ns.foldl putL []), bytes_fold]
  rfl
theorem bytesOf_strsOf_ (l : List (List UInt8)) : bytesOf_ (strsOf_ l) = l := by
  simp only [strsOf_, bytesOf_, List.map_map]
  exact (List.map_congr_left (fun x _ => rfl)).trans (List.map_id l)
theorem two_filters {α : Type} (p q : α → Bool) (hpq : ∀ x, ¬ (p x = true ∧ q x = true)) (l : List α) : (l.filter p).length + (l.filter q).length ≤ l.length := by
  induction l with
  | nil => simp
  | cons x l ih =>
    have := hpq x
    by_cases h1 : p x = true <;> by_cases h2 : q x = true <;> simp [h1, h2] at * <;> omega
theorem putL_len (l : List ByteArray) (s : ByteArray) : (putL l s).length ≤ l.length + 1 := by
  have e : ∀ x y : ByteArray, Op.bytesLess x.toList y.toList = decide (x.data.toList < y.data.toList) := fun x y => by rw [Go.Proofs.bytesLess_eq, toList_eq, toList_eq]
  have := two_filters (fun x : ByteArray => Op.bytesLess x.toList s.toList) (fun x => Op.bytesLess s.toList x.toList) (fun x h => by
    rw [e, e] at h
    simp only [decide_eq_true_eq] at h
    exact List.lt_irrefl _ (List.lt_trans h.1 h.2)) l
  unfold putL
  rw [List.length_append, List.length_append, List.length_singleton]
  omega
theorem filt {α : Type} (p : α → Bool) : ∀ (l acc : List α), l.foldl (fun a x => if p x = true then a ++ [x] else a) acc = acc ++ l.filter p
  | [], acc => by simp
  | x :: l, acc => by
    rw [List.foldl_cons, filt p l]
    by_cases h : p x = true <;> simp [h]
theorem filt_len {α : Type} (p : α → Bool) (a : List α) (x : α) : (if p x = true then a ++ [x] else a).length ≤ a.length + 1 := by
  split <;> simp
theorem l03Put_ok (l : List ByteArray) (s : ByteArray) (hl : l.length ≤ 2199023255552) : Ev (fun k => spec_l03Put.f k l s) (putL l s) := by
  unfold spec_l03Put.f
  have second : ∀ acc : List ByteArray, acc.length ≤ 2199023255553 → Ev (fun k => spec_l03Put.l1 k l s acc 0) (acc ++ l.filter (fun x => Op.bytesLess s.toList x.toList)) := by
    intro acc ha
    refine run (fun k a i => spec_l03Put.l1 k l s a i) l ByteArray.empty (by omega) (fun a x => if Op.bytesLess s.toList x.toList = true then a ++ [x] else a) (fun i a => a.length ≤ acc.length + i) (fun i a r hi hm hI => ⟨?_, fun e => ?_⟩) acc _ (by omega) ?_
    · have := filt_len (fun x : ByteArray => Op.bytesLess s.toList x.toList) a (l.getD i ByteArray.empty)
      omega
    · refine Ev.next e (fun k => ?_)
      simp only [spec_l03Put.l1]
      rw [if_pos (by omega), if_pos (by omega), show (rdOf ByteArray.empty l (i : Int)) = l.getD i ByteArray.empty from rfl]
      by_cases hp : Op.bytesLess s.toList (l.getD i ByteArray.empty).toList = true
      · rw [if_pos hp, if_pos hp, if_pos (by omega)]
      · rw [if_neg hp, if_neg hp]
    · rw [filt]
      exact Ev.done (fun k => by simp only [spec_l03Put.l1]; rw [if_neg (by omega)])
  refine run (fun k a i => spec_l03Put.l0 k l s a i) l ByteArray.empty (by omega) (fun a x => if Op.bytesLess x.toList s.toList = true then a ++ [x] else a) (fun i a => a.length ≤ i) (fun i a r hi hm hI => ⟨?_, fun e => ?_⟩) [] _ (by simp) ?_
  · have := filt_len (fun x : ByteArray => Op.bytesLess x.toList s.toList) a (l.getD i ByteArray.empty)
    omega
  · refine Ev.next e (fun k => ?_)
    simp only [spec_l03Put.l0]
    rw [if_pos (by omega), if_pos (by omega), show (rdOf ByteArray.empty l (i : Int)) = l.getD i ByteArray.empty from rfl]
    by_cases hp : Op.bytesLess (l.getD i ByteArray.empty).toList s.toList = true
    · rw [if_pos hp, if_pos hp, if_pos (by omega)]
    · rw [if_neg hp, if_neg hp]
  · rw [filt, List.nil_append]
    have hf : (l.filter (fun x => Op.bytesLess x.toList s.toList)).length ≤ l.length := List.length_filter_le _ _
    refine Ev.next (second _ (by rw [List.length_append, List.length_singleton]; omega)) (fun k => ?_)
    simp only [spec_l03Put.l0]
    rw [if_neg (by omega), if_pos (by omega)]

/-! ### what is called -/
def nmA (a : S44) : List ByteArray := (a.f0.filter (fun x => decide (x.f0 = 3))).map (·.f1)
def stepS (acc : List ByteArray) (x : S47) : List ByteArray := if x.f0 = 3 then putL acc x.f1 else acc
def stepI (acc : List ByteArray) (x : S47) : List ByteArray := if x.f0 = 3 then acc ++ [x.f1] else acc
theorem foldS (l : List S47) : ∀ acc, l.foldl stepS acc = ((l.filter (fun x => decide (x.f0 = 3))).map (·.f1)).foldl putL acc := by
  induction l with
  | nil => intro acc; rfl
  | cons x l ih =>
    intro acc
    rw [List.foldl_cons, ih]
    by_cases h : x.f0 = 3 <;> simp [stepS, h]
theorem foldI (l : List S47) : ∀ acc, l.foldl stepI acc = acc ++ (l.filter (fun x => decide (x.f0 = 3))).map (·.f1) := by
  induction l with
  | nil => intro acc; simp
  | cons x l ih =>
    intro acc
    rw [List.foldl_cons, ih]
    by_cases h : x.f0 = 3 <;> simp [stepI, h]
def altS (acc : List ByteArray) (a : S44) : List ByteArray := a.f0.foldl stepS acc
def altI (acc : List ByteArray) (a : S44) : List ByteArray := a.f0.foldl stepI acc
theorem foldAI (l : List S44) : ∀ acc, l.foldl altI acc = acc ++ l.flatMap nmA := by
  induction l with
  | nil => intro acc; simp
  | cons a l ih => intro acc; rw [List.foldl_cons, ih, altI, foldI, List.flatMap_cons, List.append_assoc]; rfl
theorem foldAS (l : List S44) : ∀ acc, l.foldl altS acc = (l.flatMap nmA).foldl putL acc := by
  induction l with
  | nil => intro acc; rfl
  | cons a l ih => intro acc; rw [List.foldl_cons, ih, altS, foldS, List.flatMap_cons, List.foldl_append]; rfl
/-- What a rule calls, ascending, each once. -/
def called (g : List S41) (rule : Int) : List ByteArray := if 0 ≤ rule ∧ rule ≤ (g.length : Int) - 1 then ((g.getD rule.toNat z41).f2.flatMap nmA).foldl putL [] else []
def smallG (g : List S41) : Prop := g.length ≤ 1048576 ∧ ∀ x ∈ g, x.f2.length ≤ 1048576 ∧ ∀ a ∈ x.f2, a.f0.length ≤ 1048576
theorem stepS_len (acc : List ByteArray) (x : S47) : (stepS acc x).length ≤ acc.length + 1 := by
  unfold stepS
  split
  · exact putL_len acc x.f1
  · omega
theorem stepI_len (acc : List ByteArray) (x : S47) : (stepI acc x).length ≤ acc.length + 1 := by
  unfold stepI
  split <;> simp
theorem foldl_len {α β : Type} (f : List β → α → List β) (hf : ∀ acc x, (f acc x).length ≤ acc.length + 1) : ∀ (l : List α) (acc : List β), (l.foldl f acc).length ≤ acc.length + l.length
  | [], acc => by simp
  | x :: l, acc => by
    have h1 := foldl_len f hf l (f acc x)
    have h2 := hf acc x
    rw [List.foldl_cons, List.length_cons]
    omega
theorem in_ok (a b c : Int) : spec_l01In.f a b c = some (decide (b ≤ a ∧ a ≤ c)) := by
  unfold spec_l01In.f
  by_cases h : a ≥ b
  · rw [if_pos h]; simp [h]
  · rw [if_neg h]; simp; omega
theorem within_ok (a b c : Int) : impl_within.f a b c = some (decide (b ≤ a ∧ a ≤ c)) := by
  unfold impl_within.f
  by_cases h : a ≥ b
  · rw [if_pos h]; simp [h]
  · rw [if_neg h]; simp; omega
theorem spec_ok (g : List S41) (rule : Int) (hg : smallG g) : Ev (fun k => spec_CallsOf.f k g rule) (called g rule) := by
  unfold spec_CallsOf.f called
  simp only [Option.bind_some, in_ok, w64 (x := (g.length : Int) - 1) (by omega) (by have := hg.1; omega)]
  by_cases hr : 0 ≤ rule ∧ rule ≤ (g.length : Int) - 1
  · simp only [hr, and_self, decide_true, if_true]
    have hlt : rule.toNat < g.length := by omega
    have hx := hg.2 _ (getD_mem g z41 hlt)
    obtain ⟨X, hX⟩ : ∃ X, X = g.getD rule.toNat z41 := ⟨_, rfl⟩
    rw [← hX] at hx ⊢
    have hX2 : rd_T41 g rule = X := by rw [hX]; rfl
    refine run (fun k acc i => spec_CallsOf.l0 k rule acc i g) X.f2 z44 (by omega) altS (fun i acc => acc.length ≤ i * 1048576) (fun i acc r hi hm hI => ?_) [] _ (by simp) ?_
    · have ha := hx.2 _ hm
      obtain ⟨Y, hY⟩ : ∃ Y, Y = X.f2.getD i z44 := ⟨_, rfl⟩
      rw [← hY] at ha ⊢
      have hY2 : rd_T44 X.f2 (i : Int) = Y := by rw [hY]; rfl
      refine ⟨?_, fun e => ?_⟩
      · have := foldl_len stepS stepS_len Y.f0 acc
        unfold altS
        omega
      · refine Ev.next (f := fun k => spec_CallsOf.l1 k rule acc i Y.f0 0 g) ?_ (fun k => ?_)
        · refine run (fun k a j => spec_CallsOf.l1 k rule a i Y.f0 j g) Y.f0 z47 (by omega) stepS (fun j a => a.length ≤ acc.length + j) (fun j a r2 hj hm2 hJ => ⟨by have h1 := stepS_len a (Y.f0.getD j z47); omega, fun e2 => ?_⟩) acc _ (by omega) ?_
          · have h47 : rd_T47 Y.f0 (j : Int) = Y.f0.getD j z47 := rfl
            by_cases h3 : (Y.f0.getD j z47).f0 = 3
            · have hs : stepS a (Y.f0.getD j z47) = putL a (Y.f0.getD j z47).f1 := by unfold stepS; rw [if_pos h3]
              rw [hs] at e2
              refine Ev.step (f := fun k => (spec_l03Put.f k a (Y.f0.getD j z47).f1).bind fun t => spec_CallsOf.l1 k rule t i Y.f0 (wrap64 ((j : Int) + 1)) g) (fun k => ?_) (Ev.bind (l03Put_ok a _ (by omega)) e2)
              simp only [spec_CallsOf.l1]
              rw [if_pos (by omega), if_pos (by omega), h47, if_pos h3]
            · have hs : stepS a (Y.f0.getD j z47) = a := by unfold stepS; rw [if_neg h3]
              rw [hs] at e2
              refine Ev.next e2 (fun k => ?_)
              simp only [spec_CallsOf.l1]
              rw [if_pos (by omega), if_pos (by omega), h47, if_neg h3]
          · refine Ev.next e (fun k => ?_)
            simp only [spec_CallsOf.l1]
            rw [if_neg (by omega)]
            rfl
        · simp only [spec_CallsOf.l0]
          rw [if_pos (by omega), if_pos (by omega), hX2, if_pos (by omega), if_pos (by omega), hY2]
    · rw [foldAS]
      refine Ev.done (fun k => ?_)
      simp only [spec_CallsOf.l0]
      rw [if_pos (by omega), if_pos (by omega), hX2, if_neg (by omega)]
  · have : decide (0 ≤ rule ∧ rule ≤ (g.length : Int) - 1) = false := decide_eq_false hr
    simp only [this, if_neg hr]
    exact Ev.now _
theorem impl_ok (g : List S41) (rule : Int) (hg : smallG g) : Ev (fun k => impl_CallsOf.f k g rule) (called g rule) := by
  unfold impl_CallsOf.f called
  simp only [Option.bind_some, within_ok, w64 (x := (g.length : Int) - 1) (by omega) (by have := hg.1; omega)]
  by_cases hr : 0 ≤ rule ∧ rule ≤ (g.length : Int) - 1
  · have h9 : rule < (g.length : Int) := by omega
    simp only [hr, and_self, decide_true, if_true, h9]
    have hlt : rule.toNat < g.length := by omega
    have hx := hg.2 _ (getD_mem g z41 hlt)
    obtain ⟨X, hX⟩ : ∃ X, X = g.getD rule.toNat z41 := ⟨_, rfl⟩
    rw [← hX] at hx ⊢
    have hX2 : rd_T41 g rule = X := by rw [hX]; rfl
    rw [hX2]
    refine run (fun k acc i => impl_CallsOf.l0 k acc X.f2 (X.f2.length : Int) i) X.f2 z44 (by omega) altI (fun i acc => acc.length ≤ i * 1048576) (fun i acc r hi hm hI => ?_) [] _ (by simp) ?_
    · have ha := hx.2 _ hm
      obtain ⟨Y, hY⟩ : ∃ Y, Y = X.f2.getD i z44 := ⟨_, rfl⟩
      rw [← hY] at ha ⊢
      have hY2 : rd_T44 X.f2 (i : Int) = Y := by rw [hY]; rfl
      refine ⟨?_, fun e => ?_⟩
      · have := foldl_len stepI stepI_len Y.f0 acc
        unfold altI
        omega
      · refine Ev.next (f := fun k => impl_CallsOf.l1 k acc X.f2 (X.f2.length : Int) i Y.f0 (Y.f0.length : Int) 0) ?_ (fun k => ?_)
        · refine run (fun k a j => impl_CallsOf.l1 k a X.f2 (X.f2.length : Int) i Y.f0 (Y.f0.length : Int) j) Y.f0 z47 (by omega) stepI (fun j a => a.length ≤ acc.length + j) (fun j a r2 hj hm2 hJ => ⟨by have h1 := stepI_len a (Y.f0.getD j z47); omega, fun e2 => ?_⟩) acc _ (by omega) ?_
          · have h47 : rd_T47 Y.f0 (j : Int) = Y.f0.getD j z47 := rfl
            by_cases h3 : (Y.f0.getD j z47).f0 = 3
            · have hs : stepI a (Y.f0.getD j z47) = a ++ [(Y.f0.getD j z47).f1] := by unfold stepI; rw [if_pos h3]
              rw [hs] at e2
              refine Ev.next e2 (fun k => ?_)
              simp only [impl_CallsOf.l1]
              rw [if_pos (by omega), if_pos (by omega), if_pos (by omega), h47, if_pos h3, if_pos (by omega)]
            · have hs : stepI a (Y.f0.getD j z47) = a := by unfold stepI; rw [if_neg h3]
              rw [hs] at e2
              refine Ev.next e2 (fun k => ?_)
              simp only [impl_CallsOf.l1]
              rw [if_pos (by omega), if_pos (by omega), if_pos (by omega), h47, if_neg h3]
          · refine Ev.next e (fun k => ?_)
            simp only [impl_CallsOf.l1]
            rw [if_neg (by omega)]
            rfl
        · simp only [impl_CallsOf.l0]
          rw [if_pos (by omega), if_pos (by omega), if_pos (by omega), hY2]
    · rw [foldAI, List.nil_append]
      have hlen : (X.f2.flatMap nmA).length ≤ 1099511627776 := by
        have : ∀ l : List S44, (∀ a ∈ l, a.f0.length ≤ 1048576) → (l.flatMap nmA).length ≤ l.length * 1048576 := by
          intro l
          induction l with
          | nil => intro _; simp
          | cons a l ih =>
            intro h
            have h1 := ih (fun b hb => h b (List.mem_cons_of_mem _ hb))
            have h2 := h a List.mem_cons_self
            have h3 : (nmA a).length ≤ a.f0.length := by unfold nmA; rw [List.length_map]; exact List.length_filter_le _ _
            rw [List.flatMap_cons, List.length_append, List.length_cons]
            omega
        have h1 := this X.f2 hx.2
        have h2 := hx.1
        omega
      refine Ev.done (fun k => ?_)
      simp only [impl_CallsOf.l0]
      rw [if_neg (by omega)]
      unfold slices_Sort_string_string.f slices_Compact_string_string.f
      rw [if_pos (by omega), Option.bind_some, if_pos (by simp only [strsOf_, bytesOf_, List.length_map, List.length_mergeSort]; omega), Option.bind_some, bytesOf_strsOf_, fold_is_sorted]
  · have : decide (0 ≤ rule ∧ rule ≤ (g.length : Int) - 1) = false := decide_eq_false hr
    simp only [this, if_neg hr]
    exact Ev.now _

/-! ### what is left bounds the marks -/
/-- What is counted down bounds C. -/
def Dn (g : Int → Option Int) (C : Nat) (b : Int) : Prop := ∀ a r, 0 ≤ a → a ≤ 1048576 → g a = some r → 0 ≤ r → r ≤ a ∧ (C : Int) ≤ b + 3 * (a - r)
theorem Dn.loop {α : Type} (xs : List α) (z : α) (hn : xs.length ≤ 1048576) (c : α → Nat) (l : Nat → Int → Int → Option Int) (e : Nat → α → Int → Option Int) (h0 : ∀ a i, l 0 a i = none)
    (hs : ∀ k a (i : Nat), i < xs.length → l (k + 1) a (i : Int) = (e k (xs.getD i z) a).bind fun t => if t < 0 then some (-1) else l k t (wrap64 ((i : Int) + 1)))
    (he : ∀ k a, l (k + 1) a (xs.length : Int) = some a) (hd : ∀ k, ∀ x ∈ xs, Dn (e k x) (c x) 3) : ∀ k, Dn (fun a => l k a 0) ((xs.map c).sum) (3 * xs.length) := by
  have main : ∀ k (i : Nat) a r, i ≤ xs.length → 0 ≤ a → a ≤ 1048576 → l k a (i : Int) = some r → 0 ≤ r → r ≤ a ∧ ((((xs.drop i).map c).sum : Nat) : Int) ≤ 3 * ((xs.length : Int) - i) + 3 * (a - r) := by
    intro k
    induction k with
    | zero => intro i a r _ _ _ h; rw [h0] at h; cases h
    | succ k ih =>
      intro i a r hi ha0 ha1 h hr
      by_cases hlt : i < xs.length
      · rw [hs k a i hlt] at h
        obtain ⟨t, ht, h⟩ := Option.bind_eq_some_iff.1 h
        by_cases hneg : t < 0
        · rw [if_pos hneg] at h
          have := Option.some.inj h
          omega
        · rw [if_neg hneg, up64 hlt (by omega)] at h
          obtain ⟨d1, d2⟩ := hd k _ (getD_mem xs z hlt) a t ha0 ha1 ht (by omega)
          obtain ⟨e1, e2⟩ := ih (i + 1) t r (by omega) (by omega) (by omega) h hr
          refine ⟨by omega, ?_⟩
          have hx : xs.getD i z = xs[i] := by simp [List.getD, hlt]
          rw [hx] at d2
          rw [List.drop_eq_getElem_cons hlt, List.map_cons, List.sum_cons]
          omega
      · have : i = xs.length := by omega
        subst this
        rw [he] at h
        have := Option.some.inj h
        rw [List.drop_length]
        simp
        omega
  intro k a r h0 h1 h hr
  have := main k 0 a r (by omega) h0 h1 h hr
  simpa using this
theorem Dn.list {α : Type} {xs : List α} {c : α → Nat} {f l : Int → Option Int} (hn : xs.length ≤ 1048576) (hf : ∀ a, f a = if wrap64 (a - (xs.length : Int)) < 0 then some (-1) else l (wrap64 (a - (xs.length : Int)))) (hl : Dn l ((xs.map c).sum) (3 * xs.length)) : Dn f ((xs.map c).sum) 0 := by
  intro a r h0 h1 h hr
  rw [hf, w64 (by omega) (by omega)] at h
  by_cases hneg : a - (xs.length : Int) < 0
  · rw [if_pos hneg] at h
    have := Option.some.inj h
    omega
  · rw [if_neg hneg] at h
    obtain ⟨d1, d2⟩ := hl _ r (by omega) (by omega) h hr
    exact ⟨by omega, by omega⟩
theorem sum_ones {α : Type} (l : List α) : (l.map fun _ => 1).sum = l.length := by
  induction l with
  | nil => rfl
  | cons x l ih => rw [List.map_cons, List.sum_cons, ih, List.length_cons]; omega
theorem dnIntS (l : List Int) (hl : l.length ≤ 1048576) : Dn (fun a => laws_szIntS.f l a) (l.length) 0 := by
  intro a r h0 h1 h hr
  simp only [laws_szIntS.f] at h
  rw [w64 (by omega) (by omega)] at h
  by_cases hneg : a - (l.length : Int) < 0
  · rw [if_pos hneg] at h
    have := Option.some.inj h
    omega
  · rw [if_neg hneg] at h
    have := Option.some.inj h
    exact ⟨by omega, by omega⟩
theorem dnStringS (k : Nat) (l : List ByteArray) (hl : l.length ≤ 1048576) (hs : ∀ s ∈ l, s.size ≤ 1048576) : ∀ a r, 0 ≤ a → a ≤ 1048576 → laws_szStringS.f k l a = some r → 0 ≤ r → r + l.length ≤ a := by
  intro a r h0 h1 h hr
  simp only [laws_szStringS.f] at h
  rw [w64 (by omega) (by omega)] at h
  by_cases hneg : a - (l.length : Int) < 0
  · rw [if_pos hneg] at h
    have := Option.some.inj h
    omega
  · rw [if_neg hneg] at h
    have main : ∀ k (i : Nat) a r, i ≤ l.length → 0 ≤ a → a ≤ 1048576 → laws_szStringS.l0 k l a (i : Int) = some r → 0 ≤ r → r ≤ a := by
      intro k
      induction k with
      | zero => intro i a r _ _ _ h; simp [laws_szStringS.l0] at h
      | succ k ih =>
        intro i a r hi ha0 ha1 h hr
        simp only [laws_szStringS.l0] at h
        by_cases hlt : (i : Int) < (l.length : Int)
        · have hsz := hs _ (getD_mem l ByteArray.empty (show i < l.length by omega))
          rw [if_pos hlt, if_pos (by omega), show (rdOf ByteArray.empty l (i : Int)) = l.getD i ByteArray.empty from rfl, w64 (x := a - ((l.getD i ByteArray.empty).size : Int)) (by omega) (by omega)] at h
          by_cases hn : a - ((l.getD i ByteArray.empty).size : Int) < 0
          · rw [if_pos hn] at h
            have := Option.some.inj h
            omega
          · rw [if_neg hn, up64 (n := l.length) (by omega) (by omega)] at h
            have := ih (i + 1) _ r (by omega) (by omega) (by omega) h hr
            omega
        · rw [if_neg hlt] at h
          have := Option.some.inj h
          omega
    have := main k 0 _ r (by omega) (by omega) (by omega) h hr
    omega
theorem dnExNode (x : S130) (hx : smExNode x) : Dn (fun a => laws_szExNode.f x.f0 x.f1 x.f2 x.f3 a) (cnt_k115 (cvExNode x)) 3 := by
  intro a r h0 h1 h hr
  simp only [laws_szExNode.f] at h
  obtain ⟨hx2, hx3⟩ := hx
  rw [w64 (x := a - (x.f2.size : Int)) (by omega) (by omega)] at h
  by_cases c2 : a - (x.f2.size : Int) < 0
  · rw [if_pos c2] at h
    have := Option.some.inj h
    omega
  rw [if_neg c2] at h
  obtain ⟨t3, e3, h⟩ := Option.bind_eq_some_iff.1 h
  by_cases c3 : t3 < 0
  · rw [if_pos c3] at h
    have := Option.some.inj h
    omega
  rw [if_neg c3] at h
  have d3 := dnIntS x.f3 hx3 _ t3 (by omega) (by omega) e3 (by omega)
  have hr2 := Option.some.inj h
  simp only [cnt_k115, cvExNode, List.map_map, sum_ones]
  try simp only [Function.comp_def]
  exact ⟨by omega, by omega⟩
theorem dnExNodeS (k : Nat) (l : List S130) (hx : l.length ≤ 1048576 ∧ ∀ x ∈ l, smExNode x) : Dn (fun a => laws_szExNodeS.f k l a) ((l.map fun x => cnt_k115 (cvExNode x)).sum) 0 :=
  Dn.list (c := fun x => cnt_k115 (cvExNode x)) hx.1 (fun a => rfl) (Dn.loop l z130 hx.1 (fun x => cnt_k115 (cvExNode x)) (fun k a i => laws_szExNodeS.l0 k l a i) (fun k x a => laws_szExNode.f x.f0 x.f1 x.f2 x.f3 a) (fun a i => rfl)
    (fun k a i hi => by simp only [laws_szExNodeS.l0]; rw [if_pos (by omega), if_pos (by omega)]; rfl) (fun k a => by simp only [laws_szExNodeS.l0]; rw [if_neg (by omega)]) (fun k x h => dnExNode x (hx.2 x h)) k)
theorem dnExpr (k : Nat) (x : S123) (hx : smExpr x) : Dn (fun a => laws_szExpr.f k x.f0 a) (cnt_k106 (cvExpr x)) 3 := by
  intro a r h0 h1 h hr
  simp only [laws_szExpr.f] at h
  have hx0 := hx
  obtain ⟨t0, e0, h⟩ := Option.bind_eq_some_iff.1 h
  by_cases c0 : t0 < 0
  · rw [if_pos c0] at h
    have := Option.some.inj h
    omega
  rw [if_neg c0] at h
  have d0 := dnExNodeS k x.f0 hx0 _ t0 (by omega) (by omega) e0 (by omega)
  have hr2 := Option.some.inj h
  simp only [cnt_k106, cvExpr, List.map_map, sum_ones]
  try simp only [Function.comp_def]
  exact ⟨by omega, by omega⟩
theorem dnExprS (k : Nat) (l : List S123) (hx : l.length ≤ 1048576 ∧ ∀ x ∈ l, smExpr x) : Dn (fun a => laws_szExprS.f k l a) ((l.map fun x => cnt_k106 (cvExpr x)).sum) 0 :=
  Dn.list (c := fun x => cnt_k106 (cvExpr x)) hx.1 (fun a => rfl) (Dn.loop l z123 hx.1 (fun x => cnt_k106 (cvExpr x)) (fun k a i => laws_szExprS.l0 k l a i) (fun k x a => laws_szExpr.f k x.f0 a) (fun a i => rfl)
    (fun k a i hi => by simp only [laws_szExprS.l0]; rw [if_pos (by omega), if_pos (by omega)]; rfl) (fun k a => by simp only [laws_szExprS.l0]; rw [if_neg (by omega)]) (fun k x h => dnExpr k x (hx.2 x h)) k)
theorem dnSym (k : Nat) (x : S110) (hx : smSym x) : Dn (fun a => laws_szSym.f k x.f0 x.f1 x.f2 x.f3 a) (cnt_k47 (cvSym x)) 3 := by
  intro a r h0 h1 h hr
  simp only [laws_szSym.f] at h
  obtain ⟨hx1, hx2, hx3⟩ := hx
  rw [w64 (x := a - (x.f1.size : Int)) (by omega) (by omega)] at h
  by_cases c1 : a - (x.f1.size : Int) < 0
  · rw [if_pos c1] at h
    have := Option.some.inj h
    omega
  rw [if_neg c1] at h
  obtain ⟨t2, e2, h⟩ := Option.bind_eq_some_iff.1 h
  by_cases c2 : t2 < 0
  · rw [if_pos c2] at h
    have := Option.some.inj h
    omega
  rw [if_neg c2] at h
  have d2 := dnExprS k x.f2 hx2 _ t2 (by omega) (by omega) e2 (by omega)
  rw [w64 (x := t2 - (x.f3.size : Int)) (by omega) (by omega)] at h
  by_cases c3 : t2 - (x.f3.size : Int) < 0
  · rw [if_pos c3] at h
    have := Option.some.inj h
    omega
  rw [if_neg c3] at h
  have hr2 := Option.some.inj h
  simp only [cnt_k47, cvSym, List.map_map, sum_ones]
  try simp only [Function.comp_def]
  exact ⟨by omega, by omega⟩
theorem dnSymS (k : Nat) (l : List S110) (hx : l.length ≤ 1048576 ∧ ∀ x ∈ l, smSym x) : Dn (fun a => laws_szSymS.f k l a) ((l.map fun x => cnt_k47 (cvSym x)).sum) 0 :=
  Dn.list (c := fun x => cnt_k47 (cvSym x)) hx.1 (fun a => rfl) (Dn.loop l z110 hx.1 (fun x => cnt_k47 (cvSym x)) (fun k a i => laws_szSymS.l0 k l a i) (fun k x a => laws_szSym.f k x.f0 x.f1 x.f2 x.f3 a) (fun a i => rfl)
    (fun k a i hi => by simp only [laws_szSymS.l0]; rw [if_pos (by omega), if_pos (by omega)]; rfl) (fun k a => by simp only [laws_szSymS.l0]; rw [if_neg (by omega)]) (fun k x h => dnSym k x (hx.2 x h)) k)
theorem dnAlt (k : Nat) (x : S86) (hx : smAlt x) : Dn (fun a => laws_szAlt.f k x.f0 a) (cnt_k44 (cvAlt x)) 3 := by
  intro a r h0 h1 h hr
  simp only [laws_szAlt.f] at h
  have hx0 := hx
  obtain ⟨t0, e0, h⟩ := Option.bind_eq_some_iff.1 h
  by_cases c0 : t0 < 0
  · rw [if_pos c0] at h
    have := Option.some.inj h
    omega
  rw [if_neg c0] at h
  have d0 := dnSymS k x.f0 hx0 _ t0 (by omega) (by omega) e0 (by omega)
  have hr2 := Option.some.inj h
  simp only [cnt_k44, cvAlt, List.map_map, sum_ones]
  try simp only [Function.comp_def]
  exact ⟨by omega, by omega⟩
theorem dnAltS (k : Nat) (l : List S86) (hx : l.length ≤ 1048576 ∧ ∀ x ∈ l, smAlt x) : Dn (fun a => laws_szAltS.f k l a) ((l.map fun x => cnt_k44 (cvAlt x)).sum) 0 :=
  Dn.list (c := fun x => cnt_k44 (cvAlt x)) hx.1 (fun a => rfl) (Dn.loop l z86 hx.1 (fun x => cnt_k44 (cvAlt x)) (fun k a i => laws_szAltS.l0 k l a i) (fun k x a => laws_szAlt.f k x.f0 a) (fun a i => rfl)
    (fun k a i hi => by simp only [laws_szAltS.l0]; rw [if_pos (by omega), if_pos (by omega)]; rfl) (fun k a => by simp only [laws_szAltS.l0]; rw [if_neg (by omega)]) (fun k x h => dnAlt k x (hx.2 x h)) k)
theorem dnRule (k : Nat) (x : S58) (hx : smRule x) : Dn (fun a => laws_szRule.f k x.f0 x.f1 x.f2 a) (cnt_k41 (cvRule x)) 3 := by
  intro a r h0 h1 h hr
  simp only [laws_szRule.f] at h
  obtain ⟨hx0, hx1, hx2⟩ := hx
  rw [w64 (x := a - (x.f0.size : Int)) (by omega) (by omega)] at h
  by_cases c0 : a - (x.f0.size : Int) < 0
  · rw [if_pos c0] at h
    have := Option.some.inj h
    omega
  rw [if_neg c0] at h
  obtain ⟨t1, e1, h⟩ := Option.bind_eq_some_iff.1 h
  by_cases c1 : t1 < 0
  · rw [if_pos c1] at h
    have := Option.some.inj h
    omega
  rw [if_neg c1] at h
  have d1 := dnStringS k x.f1 hx1.1 hx1.2 _ t1 (by omega) (by omega) e1 (by omega)
  obtain ⟨t2, e2, h⟩ := Option.bind_eq_some_iff.1 h
  by_cases c2 : t2 < 0
  · rw [if_pos c2] at h
    have := Option.some.inj h
    omega
  rw [if_neg c2] at h
  have d2 := dnAltS k x.f2 hx2 _ t2 (by omega) (by omega) e2 (by omega)
  have hr2 := Option.some.inj h
  simp only [cnt_k41, cvRule, List.map_map, sum_ones]
  try simp only [Function.comp_def]
  exact ⟨by omega, by omega⟩
theorem dnRuleS (k : Nat) (l : List S58) (hx : l.length ≤ 1048576 ∧ ∀ x ∈ l, smRule x) : Dn (fun a => laws_szRuleS.f k l a) ((l.map fun x => cnt_k41 (cvRule x)).sum) 0 :=
  Dn.list (c := fun x => cnt_k41 (cvRule x)) hx.1 (fun a => rfl) (Dn.loop l z58 hx.1 (fun x => cnt_k41 (cvRule x)) (fun k a i => laws_szRuleS.l0 k l a i) (fun k x a => laws_szRule.f k x.f0 x.f1 x.f2 a) (fun a i => rfl)
    (fun k a i hi => by simp only [laws_szRuleS.l0]; rw [if_pos (by omega), if_pos (by omega)]; rfl) (fun k a => by simp only [laws_szRuleS.l0]; rw [if_neg (by omega)]) (fun k x h => dnRule k x (hx.2 x h)) k)


/-! ### marks -/
theorem marks_exist : ∃ mk : Int → ByteArray, ∀ x : Int, x < 4611686018427387904 → Ev (fun k => laws_markText.f k x) (mk x) := by
  refine Classical.axiomOfChoice (r := fun (x : Int) (t : ByteArray) => x < 4611686018427387904 → Ev (fun k => laws_markText.f k x) t) (fun x => ?_)
  by_cases h : x < 4611686018427387904
  · obtain ⟨k, t, ht⟩ := markText_some x h
    exact ⟨t, fun _ => Ev.of (fun k => laws_markText.mono x k) ht⟩
  · exact ⟨ByteArray.empty, fun h2 => absurd h2 h⟩
/-- The marks from 1 on. -/
def marked (mk : Int → ByteArray) (n : Nat) : List ByteArray := (List.range n).map (fun i : Nat => mk (1 + (i : Int)))
theorem mark_ok (mk : Int → ByteArray) (hmk : ∀ x : Int, x < 4611686018427387904 → Ev (fun k => laws_markText.f k x) (mk x)) (l : List ByteArray) (hl : l.length ≤ 2199023255552) : Ev (fun k => laws_markStringS.f k l 1) (1 + (l.length : Int), marked mk l.length) := by
  unfold laws_markStringS.f
  have main : ∀ (d i : Nat) (xs : List ByteArray), i + d = l.length → xs.length = l.length → xs.take i = (List.range i).map (fun i : Nat => mk (1 + (i : Int))) → Ev (fun k => laws_markStringS.l0 k xs (1 + (i : Int)) (i : Int)) (1 + (l.length : Int), marked mk l.length) := by
    intro d
    induction d with
    | zero =>
      intro i xs h hx ht
      have hi : i = l.length := by omega
      have e : xs = marked mk l.length := by unfold marked; rw [← hi, ← ht, hi, ← hx, List.take_length]
      subst e
      refine Ev.done (fun k => ?_)
      simp only [laws_markStringS.l0]
      rw [if_neg (by omega), hi]
    | succ d ih =>
      intro i xs h hx ht
      have e := ih (i + 1) (xs.set i (mk (1 + (i : Int)))) (by omega) (by simp; exact hx) (by rw [set_take _ _ _ (by omega), ht, List.range_succ, List.map_append]; rfl)
      refine Ev.step (f := fun k => (laws_markText.f k (1 + (i : Int))).bind fun t => laws_markStringS.l0 k (xs.set i t) (1 + ((i + 1 : Nat) : Int)) ((i + 1 : Nat) : Int)) (fun k => ?_) (Ev.bind (hmk _ (by omega)) e)
      simp only [laws_markStringS.l0]
      rw [if_pos (by omega), up64 (n := l.length) (by omega) (by omega), w64 (x := 1 + (i : Int) + 1) (by omega) (by omega)]
      have e1 : (1 + (i : Int) + 1) = 1 + ((i + 1 : Nat) : Int) := by omega
      rw [e1]
      simp only [if_pos (show (0 : Int) ≤ (i : Int) by omega)]
      rfl
  exact main l.length 0 l (by omega) rfl (by simp)
theorem held_ok (mk : Int → ByteArray) (hmk : ∀ x : Int, x < 4611686018427387904 → Ev (fun k => laws_markText.f k x) (mk x)) (n : Nat) (hn : n ≤ 2199023255552) : Ev (fun k => laws_heldStringS.f k (marked mk n) 1) (1 + (n : Int)) := by
  unfold laws_heldStringS.f
  have hlen : (marked mk n).length = n := by simp [marked]
  have main : ∀ (d i : Nat), i + d = n → Ev (fun k => laws_heldStringS.l0 k (marked mk n) (1 + (i : Int)) (i : Int)) (1 + (n : Int)) := by
    intro d
    induction d with
    | zero =>
      intro i h
      have hi : i = n := by omega
      subst hi
      refine Ev.done (fun k => ?_)
      simp only [laws_heldStringS.l0]
      rw [if_neg (by omega)]
    | succ d ih =>
      intro i h
      have e := ih (i + 1) (by omega)
      have hrd : rdOf ByteArray.empty (marked mk n) (i : Int) = mk (1 + (i : Int)) := by
        show (marked mk n).getD i ByteArray.empty = _
        have : i < (marked mk n).length := by omega
        simp [List.getD, marked, show i < n by omega]
      refine Ev.step (f := fun k => (laws_markText.f k (1 + (i : Int))).bind fun t => if (mk (1 + (i : Int))).toList = t.toList then laws_heldStringS.l0 k (marked mk n) (1 + ((i + 1 : Nat) : Int)) ((i + 1 : Nat) : Int) else some (-1)) (fun k => ?_) (Ev.bind (hmk _ (by omega)) ?_)
      · simp only [laws_heldStringS.l0]
        rw [if_pos (by omega), if_pos (by omega), up64 (n := n) (by omega) (by omega), w64 (x := 1 + (i : Int) + 1) (by omega) (by omega), hrd]
        have e1 : (1 + (i : Int) + 1) = 1 + ((i + 1 : Nat) : Int) := by omega
        rw [e1]
      · simp only [if_true]
        exact e
  exact main n 0 (by omega)
theorem called_len (g : List S41) (rule : Int) (hg : smallG g) : (called g rule).length ≤ 1099511627776 := by
  unfold called
  split
  · rename_i h
    have hx := hg.2 _ (getD_mem g z41 (show rule.toNat < g.length by omega))
    have h1 : ∀ l : List S44, (∀ a ∈ l, a.f0.length ≤ 1048576) → (l.flatMap nmA).length ≤ l.length * 1048576 := by
      intro l
      induction l with
      | nil => intro _; simp
      | cons a l ih =>
        intro h
        have h1 := ih (fun b hb => h b (List.mem_cons_of_mem _ hb))
        have h2 := h a List.mem_cons_self
        have h3 : (nmA a).length ≤ a.f0.length := by unfold nmA; rw [List.length_map]; exact List.length_filter_le _ _
        rw [List.flatMap_cons, List.length_append, List.length_cons]
        omega
    have h2 := h1 _ hx.2
    have h3 := foldl_len putL putL_len ((g.getD rule.toNat z41).f2.flatMap nmA) []
    have h4 := hx.1
    rw [List.length_nil] at h3
    omega
  · simp
end Go.Proofs.Ythnokfmpogekoaa.MFnExactCallsOf
