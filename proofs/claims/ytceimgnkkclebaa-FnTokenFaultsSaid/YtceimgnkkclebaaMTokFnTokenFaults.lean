/- The program's Tokens and the reference's come to the same, for every text. Plain lemmas; no condition. -/
import Derived.Test.YtceimgnkkclebaaMSetFnTokenFaults
namespace Go.Proofs.Ytceimgnkkclebaa.MTokFnTokenFaults
open Go.RowKit Go.Proofs.Ytceimgnkkclebaa.PFnTokenFaults Go.Proofs.Ytceimgnkkclebaa.MSetFnTokenFaults Go.Proofs.YtceimgnkkclebaaPl Go.Proofs.YtceimgnkkclebaaLp Go.Proofs.YtceimgnkkclebaaW.PrintWords Go.Proofs.YtceimgnkkclebaaW.PrintLast
set_option linter.unusedVariables false
set_option linter.unusedSimpArgs false

theorem bsm {α β : Type} (x : α) (f : α → Option β) : (some x).bind f = f x := by simp
theorem tn (n : Nat) : ((n : Nat) : Int).toNat = n := by omega
theorem idxL (c : UInt8) : ∀ l : List UInt8, ∃ n, n ≤ l.length ∧ (∀ j, j < n → l[j]? ≠ some c) ∧ (n < l.length → l[n]? = some c) ∧ Go.Lib.indexByte l c = if n = l.length then -1 else (n : Int) := by
  intro l
  induction l with
  | nil => exact ⟨0, Nat.le_refl _, fun j h => by omega, fun h => absurd h (by simp), rfl⟩
  | cons x l ih =>
    obtain ⟨n, h1, h2, h3, h4⟩ := ih
    by_cases hx : x = c
    · refine ⟨0, by simp, fun j h => by omega, fun _ => by simp [hx], ?_⟩
      simp [Go.Lib.indexByte, hx]
    · refine ⟨n + 1, by simpa using h1, fun j h => ?_, fun h => ?_, ?_⟩
      · cases j with
        | zero => simpa using hx
        | succ j => simpa using h2 j (by omega)
      · simpa using h3 (by simpa using h)
      · unfold Go.Lib.indexByte
        rw [if_neg (by simpa using hx), h4]
        by_cases hn : n = l.length
        · rw [if_pos hn, if_pos (by simp), if_pos (by simp [hn])]
        · rw [if_neg hn, if_neg (by simp <;> omega), if_neg (by simp <;> omega)]
          rfl
theorem bt_list (s : ByteArray) (j : Nat) (c : Int) (h0 : 0 ≤ c) (h1 : c ≤ 255) (hj : j < s.size) : bt s (j : Int) = c ↔ s.data.toList[j]? = some c.toNat.toUInt8 := by
  have hj' : j < s.data.size := hj
  have e : bt s (j : Int) = ((s.data[j]'hj').toNat : Int) := by
    unfold bt
    rw [dif_pos (by simpa using hj)]
    rfl
  rw [e, List.getElem?_eq_getElem (by simpa using hj'), Array.getElem_toList, Option.some.injEq]
  constructor
  · intro h
    rw [← h]
    simp
  · intro h
    rw [h]
    have : c.toNat < 256 := by omega
    simp [Nat.mod_eq_of_lt this] <;> omega
theorem ext_list (s : ByteArray) (a b : Nat) : (s.extract a b).data.toList = (s.data.toList.drop a).take (b - a) := by
  rw [ByteArray.data_extract, Array.toList_extract]
theorem idx (s : ByteArray) (a b : Nat) (hab : a ≤ b) (hb : b ≤ s.size) (c : Int) (h0 : 0 ≤ c) (h1 : c ≤ 255) :
    ∃ q : Nat, a ≤ q ∧ q ≤ b ∧ (∀ j : Nat, a ≤ j → j < q → bt s (j : Int) ≠ c) ∧ (q < b → bt s (q : Int) = c) ∧ Go.Lib.indexByte (s.extract a b).data.toList c.toNat.toUInt8 = if q = b then -1 else ((q - a : Nat) : Int) := by
  have hsz : s.data.toList.length = s.size := Array.length_toList
  have hlen : ((s.data.toList.drop a).take (b - a)).length = b - a := by simp [hsz]; omega
  obtain ⟨n, e1, e2, e3, e4⟩ := idxL c.toNat.toUInt8 (s.extract a b).data.toList
  rw [ext_list] at e1 e2 e3 e4
  rw [hlen] at e1 e3 e4
  have at_ : ∀ j, j < b - a → ((s.data.toList.drop a).take (b - a))[j]? = s.data.toList[a + j]? := by
    intro j hj
    rw [List.getElem?_take_of_lt hj, List.getElem?_drop]
  refine ⟨a + n, by omega, by omega, fun j h2 h3 hc => ?_, fun h => ?_, ?_⟩
  · refine e2 (j - a) (by omega) ?_
    rw [at_ _ (by omega), show a + (j - a) = j by omega]
    exact (bt_list s j c h0 h1 (by omega)).1 hc
  · refine (bt_list s (a + n) c h0 h1 (by omega)).2 ?_
    rw [← at_ n (by omega)]
    exact e3 (by omega)
  · rw [ext_list, e4]
    by_cases hn : n = b - a
    · rw [if_pos hn, if_pos (by omega)]
    · rw [if_neg hn, if_neg (by omega)]
      congr 1
      omega

def lt (c : Int) : Bool := sm c || (decide (65 ≤ c) && decide (c ≤ 90))
theorem isLetter_f (c : Int) (h0 : 0 ≤ c) (h1 : c ≤ 255) : impl_isLetter.f c = some (lt c) := by
  unfold impl_isLetter.f lt
  rw [small_f c h0 h1, bsm, w64 (by omega) (by omega), within_f, bsm]
  cases sm c <;> simp
theorem l10Letter_f (c : Int) : spec_l10Letter.f c = some (lt c) := by
  unfold spec_l10Letter.f lt sm
  by_cases h1 : c ≥ 97 <;> by_cases h2 : c ≤ 122 <;> by_cases h3 : c ≥ 65 <;> simp [h1, h2, h3] <;> omega
theorem l10Figure_f (c : Int) : spec_l10Figure.f c = some (fg c) := by
  unfold spec_l10Figure.f fg
  by_cases h : c ≥ 48 <;> simp [h] <;> omega

/-- What both tell of a place: no token, or the same one. -/
def Same (s : ByteArray) (i : Nat) (a b : Int × ByteArray × Int) : Prop :=
  (a.2.2 = 0 ∧ b.2.2 = 0) ∨ ∃ N : Nat, 0 < N ∧ i + N ≤ s.size ∧ a.2.2 = (N : Int) ∧ b.2.2 = ((i + N : Nat) : Int) ∧ a.1 = b.1 ∧ a.2.1 = b.2.1

theorem Same.mk {s : ByteArray} {i : Nat} {a1 b1 : Int} {a2 b2 : ByteArray} {a3 b3 : Int} (N : Nat) (h0 : 0 < N) (h : i + N ≤ s.size) (ha : a3 = (N : Int)) (hb : b3 = ((i + N : Nat) : Int)) (h1 : a1 = b1) (h2 : a2 = b2) : Same s i (a1, a2, a3) (b1, b2, b3) := .inr ⟨N, h0, h, ha, hb, h1, h2⟩
theorem Same.no {s : ByteArray} {i : Nat} {a1 b1 : Int} {a2 b2 : ByteArray} : Same s i (a1, a2, 0) (b1, b2, 0) := .inl ⟨rfl, rfl⟩
/-- A row of letters and figures, or of figures. -/
def okc (letters : Bool) (c : Int) : Bool := fg c || (letters && lt c)
theorem run_l (s : ByteArray) (hs : s.size ≤ 1048576) (i : Nat) (letters : Bool) (most : Int) (n : Nat) (hn : i + n ≤ s.size) (hin : ∀ j, j < n → okc letters (bt s ((i + j : Nat) : Int)) = true) (hout : i + n < s.size → okc letters (bt s ((i + n : Nat) : Int)) = false) :
    Ev (fun k => impl_runOf.f k s (i : Int) letters most) (if (n : Int) > most then 0 else (n : Int)) := by
  unfold impl_runOf.f
  refine upTo (fun k j => impl_runOf.l0 k s (i : Int) letters most j) n (by omega) n 0 (by omega) (fun j r hj hjn e => ?_) _ ?_
  · have bc := bt_range s ((i + j : Nat) : Int)
    have h := hin j hjn
    refine Ev.step (fun k => ?_) e
    simp only [impl_runOf.l0]
    rw [wc (n := s.size) (by omega) (by omega), if_pos (by omega), if_pos (by omega), figure_f _ bc.1 bc.2, bsm]
    cases h1 : fg (bt s ((i + j : Nat) : Int)) with
    | true => rw [if_pos rfl]
    | false =>
      rw [okc, h1, Bool.false_or, Bool.and_eq_true] at h
      rw [if_neg (by decide), if_pos h.1, isLetter_f _ bc.1 bc.2, bsm, h.2, if_pos rfl]
  · refine Ev.done (fun k => ?_)
    have fin : ∀ a : Int, (if a > most then (some 0 : Option Int) else some a) = some (if a > most then 0 else a) := by intro a; split <;> rfl
    simp only [impl_runOf.l0]
    rw [wc (n := s.size) (by omega) (by omega)]
    by_cases h : i + n < s.size
    · have bc := bt_range s ((i + n : Nat) : Int)
      have h2 := hout h
      rw [okc, Bool.or_eq_false_iff] at h2
      rw [if_pos (by omega), if_pos (by omega), figure_f _ bc.1 bc.2, bsm, h2.1, if_neg (by decide)]
      cases letters with
      | false => rw [if_neg (by decide)]; exact fin _
      | true =>
        rw [if_pos rfl, isLetter_f _ bc.1 bc.2, bsm, show lt (bt s ((i + n : Nat) : Int)) = false by simpa using h2.2, if_neg (by decide)]
        exact fin _
    · rw [if_neg (by omega)]; exact fin _

theorem letters_ok (s : ByteArray) (hs : s.size ≤ 1048576) (i : Nat) (hi : i < s.size) (hc : lt (bt s (i : Int)) = true) : ∃ a b, Ev (fun k => impl_tokenAt.f k s (i : Int)) a ∧ Ev (fun k => spec_l10One.f k s (i : Int)) b ∧ Same s i a b := by
  have bc := bt_range s (i : Int)
  obtain ⟨q, q1, q2, q3, q4⟩ := firstNot (fun j => okc true (bt s (j : Int)) = true) s.size (s.size - (i + 1)) (i + 1) (by omega)
  have hrun := run_l s hs i true 6 (q - i) (by omega) (fun j hj => by
    by_cases h0 : j = 0
    · subst h0; simp [okc, hc]
    · exact q3 (i + j) (by omega) (by omega)) (fun h => by
    rw [show i + (q - i) = q by omega] at h ⊢
    simpa using q4 h)
  have e1 : wrap64 ((i : Int) + 1) = ((i + 1 : Nat) : Int) := w1 (n := s.size + 2) (by omega) (by omega)
  -- the reference goes on to q
  have hspec : ∀ r, Ev (fun k => spec_l10One.j1 k s (i : Int) (q : Int)) r → Ev (fun k => spec_l10One.f k s (i : Int)) r := by
    intro r er
    have e := upTo (fun k j => spec_l10One.l0 k s (i : Int) j) q (by omega) (q - (i + 1)) (i + 1) (by omega) (fun j r hj hjn e => by
      refine Ev.step (fun k => ?_) e
      have h := q3 j hj hjn
      simp only [spec_l10One.l0]
      rw [if_pos (by omega), if_pos (by omega), l10Letter_f, bsm]
      cases h1 : lt (bt s (j : Int)) with
      | true => rw [if_pos rfl]
      | false =>
        rw [if_neg (by decide), l10Figure_f, bsm, show fg (bt s (j : Int)) = true by simpa [okc, h1] using h, if_pos rfl]) r (Ev.step (fun k => by
      simp only [spec_l10One.l0]
      by_cases h : q < s.size
      · have h2 : okc true (bt s (q : Int)) = false := by simpa using q4 h
        rw [okc, Bool.or_eq_false_iff, Bool.true_and] at h2
        rw [if_pos (by omega), if_pos (by omega), l10Letter_f, bsm, h2.2, if_neg (by decide), l10Figure_f, bsm, h2.1, if_neg (by decide)]
      · rw [if_neg (by omega)]) er)
    refine Ev.same e (fun k => ?_)
    unfold spec_l10One.f
    rw [if_pos (by omega), if_pos (by omega), l10Letter_f, bsm, hc, if_pos rfl, e1]
  have key : wrap64 ((q : Int) - (i : Int)) = ((q - i : Nat) : Int) := by rw [w64 (by omega) (by omega)]; omega
  have e0 : wrap64 ((i : Int) + 0) = (i : Int) := by rw [w64 (by omega) (by omega)]; omega
  have c1 : (0 : Int) ≤ (i : Int) := by omega
  have c2 : (i : Int) < (s.size : Int) := by omega
  have himpl : ∀ (n : Int) a, Ev (fun k => impl_runOf.f k s (i : Int) true 6) n → (if n > 0 then (if (wrap64 ((i : Int) + n)) < (s.size : Int) then (if 0 ≤ (wrap64 ((i : Int) + n)) then (if (bt s (wrap64 ((i : Int) + n))) = 40 then (if (i : Int) ≤ (wrap64 ((i : Int) + n)) then (if (wrap64 ((i : Int) + n)) ≤ (s.size : Int) then (some ((6 : Int), s.extract ((i : Int)).toNat ((wrap64 ((i : Int) + n)) : Int).toNat, wrap64 (n + 1))) else (none)) else (none)) else (if (i : Int) ≤ (wrap64 ((i : Int) + n)) then (if (wrap64 ((i : Int) + n)) ≤ (s.size : Int) then (some (1, s.extract ((i : Int) : Int).toNat ((wrap64 ((i : Int) + n)) : Int).toNat, n)) else (none)) else (none))) else (none)) else (if (i : Int) ≤ (wrap64 ((i : Int) + n)) then (if (wrap64 ((i : Int) + n)) ≤ (s.size : Int) then (some (1, s.extract ((i : Int) : Int).toNat ((wrap64 ((i : Int) + n)) : Int).toNat, n)) else (none)) else (none))) else (if (i : Int) ≤ (wrap64 ((i : Int) + n)) then (if (wrap64 ((i : Int) + n)) ≤ (s.size : Int) then (some (1, s.extract ((i : Int) : Int).toNat ((wrap64 ((i : Int) + n)) : Int).toNat, n)) else (none)) else (none))) = some a → Ev (fun k => impl_tokenAt.f k s (i : Int)) a := by
    intro n a hn h
    unfold impl_tokenAt.f
    simp only [if_pos c1, if_pos c2, isLetter_f _ bc.1 bc.2, bsm, hc, if_true]
    exact Ev.bind hn (Ev.just fun _ => h)
  by_cases h6 : ((q - i : Nat) : Int) > 6
  · rw [if_pos h6] at hrun
    refine ⟨_, _, himpl 0 (1, s.extract i i, 0) hrun ?_, hspec (0, ⟨#[]⟩, 0) (Ev.done (fun k => by simp only [spec_l10One.j1]; rw [key, if_pos h6])), .inl ⟨rfl, rfl⟩⟩
    rw [if_neg (by omega), e0, if_pos (by omega), if_pos (by omega)]
    simp only [tn]
  · rw [if_neg h6] at hrun
    have d1 : ((q - i : Nat) : Int) > 0 := by omega
    have d3 : (0 : Int) ≤ (q : Int) := by omega
    have d4 : (i : Int) ≤ (q : Int) := by omega
    have d5 : (q : Int) ≤ (s.size : Int) := by omega
    have n1 : i + (q - i + 1) ≤ s.size ∨ ¬ q < s.size := by omega
    have n2 : i + (q - i + 1) = q + 1 := by omega
    have e4 : wrap64 ((q : Int) + 1) = ((q + 1 : Nat) : Int) := w1 (n := s.size + 2) (by omega) (by omega)
    have e2 : wrap64 ((i : Int) + ((q - i : Nat) : Int)) = (q : Int) := by rw [w64 (by omega) (by omega)]; omega
    have e3 : wrap64 (((q - i : Nat) : Int) + 1) = ((q - i + 1 : Nat) : Int) := by rw [w64 (by omega) (by omega)]; omega
    by_cases hq : q < s.size ∧ bt s (q : Int) = 40
    · have d2 : (q : Int) < (s.size : Int) := by clear e2 e3 e4; omega
      have t1 := himpl ((q - i : Nat) : Int) (6, s.extract i q, ((q - i + 1 : Nat) : Int)) hrun (by
        simp only [if_pos d1, e2, if_pos d2, if_pos d3, if_pos hq.2, if_pos d4, if_pos d5, e3, tn])
      have t2 := hspec (6, s.extract i q, ((q + 1 : Nat) : Int)) (Ev.done (fun k => by
        simp only [spec_l10One.j1, key, if_neg h6, if_pos d2, if_pos d3, if_pos hq.2, if_pos d4, if_pos d5, if_pos c1, e4, tn]))
      exact ⟨_, _, t1, t2, Same.mk (q - i + 1) (Nat.succ_pos _) (n1.resolve_right (fun h => h hq.1)) rfl (by rw [n2]) rfl rfl⟩
    · have hi' : i + (q - i) = q := by clear e2 e3 e4; omega
      have t1 := himpl ((q - i : Nat) : Int) (1, s.extract i q, ((q - i : Nat) : Int)) hrun (by
        by_cases h : q < s.size
        · have d2 : (q : Int) < (s.size : Int) := by clear e2 e3 e4; omega
          simp only [if_pos d1, e2, if_pos d2, if_pos d3, if_neg (fun h2 => hq ⟨h, h2⟩), if_pos d4, if_pos d5, tn]
        · have d2 : ¬ (q : Int) < (s.size : Int) := by clear e2 e3 e4; omega
          simp only [if_pos d1, e2, if_neg d2, if_pos d4, if_pos d5, tn])
      have t2 := hspec (1, s.extract i q, (q : Int)) (Ev.done (fun k => by
        by_cases h : q < s.size
        · have d2 : (q : Int) < (s.size : Int) := by clear e2 e3 e4; omega
          simp only [spec_l10One.j1, key, if_neg h6, if_pos d2, if_pos d3, if_neg (fun h2 => hq ⟨h, h2⟩), if_pos d4, if_pos d5, if_pos c1, tn]
        · have d2 : ¬ (q : Int) < (s.size : Int) := by clear e2 e3 e4; omega
          simp only [spec_l10One.j1, key, if_neg h6, if_neg d2, if_pos d4, if_pos d5, if_pos c1, tn]))
      exact ⟨_, _, t1, t2, Same.mk (q - i) (by clear e2 e3 e4; omega) (by rw [hi']; exact q2) rfl (by rw [hi']) rfl rfl⟩
theorem figures_ok (s : ByteArray) (hs : s.size ≤ 1048576) (i : Nat) (hi : i < s.size) (hl : lt (bt s (i : Int)) = false) (hc : fg (bt s (i : Int)) = true) : ∃ a b, Ev (fun k => impl_tokenAt.f k s (i : Int)) a ∧ Ev (fun k => spec_l10One.f k s (i : Int)) b ∧ Same s i a b := by
  have bc := bt_range s (i : Int)
  obtain ⟨q, q1, q2, q3, q4⟩ := firstNot (fun j => okc false (bt s (j : Int)) = true) s.size (s.size - (i + 1)) (i + 1) (by omega)
  have hrun := run_l s hs i false 2 (q - i) (by omega) (fun j hj => by
    by_cases h0 : j = 0
    · subst h0; simp [okc, hc]
    · exact q3 (i + j) (by omega) (by omega)) (fun h => by
    rw [show i + (q - i) = q by omega] at h ⊢
    simpa using q4 h)
  have c1 : (0 : Int) ≤ (i : Int) := by omega
  have c2 : (i : Int) < (s.size : Int) := by omega
  have d4 : (i : Int) ≤ (q : Int) := by omega
  have d5 : (q : Int) ≤ (s.size : Int) := by omega
  have d6 : (i : Int) ≤ (s.size : Int) := by omega
  have n0 : 0 < q - i := by omega
  have n2 : i + (q - i) = q := by omega
  have e1 : wrap64 ((i : Int) + 1) = ((i + 1 : Nat) : Int) := w1 (n := s.size + 2) (by omega) (by omega)
  have hspec : ∀ (r : Int × ByteArray × Int), (∀ k : Nat, (if (wrap64 ((q : Int) - (i : Int))) > 2 then (some ((0 : Int), (⟨#[]⟩ : ByteArray), (0 : Int))) else (if 0 ≤ (i : Int) then (if (i : Int) ≤ (q : Int) then (if (q : Int) ≤ (s.size : Int) then (some (2, s.extract ((i : Int)).toNat ((q : Int)).toNat, (q : Int))) else (none)) else (none)) else (none))) = some r) → Ev (fun k => spec_l10One.f k s (i : Int)) r := by
    intro r er
    have e := upTo (fun k j => spec_l10One.l1 k s (i : Int) j) q (by omega) (q - (i + 1)) (i + 1) (by omega) (fun j r hj hjn e => by
      refine Ev.step (fun k => ?_) e
      have h := q3 j hj hjn
      simp only [spec_l10One.l1]
      rw [if_pos (by clear e1; omega), if_pos (by clear e1; omega), l10Figure_f, bsm, show fg (bt s (j : Int)) = true by simpa [okc] using h, if_pos rfl]) r (Ev.done (fun k => by
      simp only [spec_l10One.l1]
      by_cases h : q < s.size
      · have h2 : fg (bt s (q : Int)) = false := by have := q4 h; simpa [okc] using this
        rw [if_pos (by clear e1; omega), if_pos (by clear e1; omega), l10Figure_f, bsm, h2, if_neg (by decide)]
        exact er k
      · rw [if_neg (by clear e1; omega)]; exact er k))
    refine Ev.same e (fun k => ?_)
    unfold spec_l10One.f
    simp only [if_pos c1, if_pos c2, l10Letter_f, bsm, hl, Bool.false_eq_true, if_false, l10Figure_f, hc, if_true, e1]
  have himpl : ∀ (n : Int) a, Ev (fun k => impl_runOf.f k s (i : Int) false 2) n → (if (i : Int) ≤ (wrap64 ((i : Int) + n)) then (if (wrap64 ((i : Int) + n)) ≤ (s.size : Int) then (some ((2 : Int), s.extract ((i : Int) : Int).toNat ((wrap64 ((i : Int) + n)) : Int).toNat, n)) else (none)) else (none)) = some a → Ev (fun k => impl_tokenAt.f k s (i : Int)) a := by
    intro n a hn h
    unfold impl_tokenAt.f
    simp only [if_pos c1, if_pos c2, isLetter_f _ bc.1 bc.2, bsm, hl, Bool.false_eq_true, if_false, figure_f _ bc.1 bc.2, hc, if_true]
    exact Ev.bind hn (Ev.just fun _ => h)
  by_cases h2 : ((q - i : Nat) : Int) > 2
  · rw [if_pos h2] at hrun
    clear e1
    have key : wrap64 ((q : Int) - (i : Int)) = ((q - i : Nat) : Int) := by rw [w64 (by omega) (by omega)]; omega
    have e0 : wrap64 ((i : Int) + 0) = (i : Int) := by clear key; rw [w64 (by omega) (by omega)]; omega
    have t1 := himpl 0 (2, s.extract i i, 0) hrun (by simp only [e0, if_pos (Int.le_refl (i : Int)), if_pos d6, tn])
    have t2 := hspec (0, ⟨#[]⟩, 0) (fun k => by simp only [key, if_pos h2])
    exact ⟨_, _, t1, t2, Same.no⟩
  · rw [if_neg h2] at hrun
    clear e1
    have key : wrap64 ((q : Int) - (i : Int)) = ((q - i : Nat) : Int) := by rw [w64 (by omega) (by omega)]; omega
    have e2 : wrap64 ((i : Int) + ((q - i : Nat) : Int)) = (q : Int) := by clear key; rw [w64 (by omega) (by omega)]; omega
    have t1 := himpl ((q - i : Nat) : Int) (2, s.extract i q, ((q - i : Nat) : Int)) hrun (by simp only [e2, if_pos d4, if_pos d5, tn])
    have t2 := hspec (2, s.extract i q, (q : Int)) (fun k => by simp only [key, if_neg h2, if_pos c1, if_pos d4, if_pos d5, tn])
    exact ⟨_, _, t1, t2, Same.mk (q - i) n0 (by rw [n2]; exact q2) rfl (by rw [n2]) rfl rfl⟩

theorem quoted_ok (s : ByteArray) (hs : s.size ≤ 1048576) (i : Nat) (hi : i < s.size) (hc : bt s (i : Int) = 34) : ∃ a b, Ev (fun k => impl_tokenAt.f k s (i : Int)) a ∧ Ev (fun k => spec_l10One.f k s (i : Int)) b ∧ Same s i a b := by
  have hl : lt (34 : Int) = false := by decide
  have hf : fg (34 : Int) = false := by decide
  have hL : impl_isLetter.f (34 : Int) = some false := by rw [isLetter_f 34 (by omega) (by omega), hl]
  have hF : impl_isFigure.f (34 : Int) = some false := by rw [figure_f 34 (by omega) (by omega), hf]
  obtain ⟨q, q1, q2, q3, q4, qi⟩ := idx s (i + 1) s.size (by omega) (Nat.le_refl _) 34 (by omega) (by omega)
  obtain ⟨p, p1, p2, p3, p4⟩ := firstNot (fun j => bt s (j : Int) ≠ 34 ∧ bt s (j : Int) ≠ 10) s.size (s.size - (i + 1)) (i + 1) (by omega)
  have hpq : p ≤ q := by
    by_cases h : p ≤ q
    · exact h
    · exact absurd (q4 (by omega)) (p3 q (by omega) (by omega)).1
  have c1 : (0 : Int) ≤ (i : Int) := by omega
  have c2 : (i : Int) < (s.size : Int) := by omega
  have c3 : (0 : Int) ≤ ((i + 1 : Nat) : Int) := by omega
  have c4 : ((i + 1 : Nat) : Int) ≤ (s.size : Int) := by omega
  have d1 : ((i + 1 : Nat) : Int) ≤ (q : Int) := by omega
  have d2 : (q : Int) ≤ (s.size : Int) := by omega
  have dp : ((i + 1 : Nat) : Int) ≤ (p : Int) := by omega
  have dp2 : (p : Int) ≤ (s.size : Int) := by omega
  have e1 : wrap64 ((i : Int) + 1) = ((i + 1 : Nat) : Int) := w1 (n := s.size + 2) (by omega) (by omega)
  -- the program's
  have himpl : ∀ a, impl_quoted.f s (i : Int) = some a → Ev (fun k => impl_tokenAt.f k s (i : Int)) a := by
    intro a h
    unfold impl_tokenAt.f
    refine Ev.just fun k => ?_
    simp only [if_pos c1, if_pos c2, hc, hL, hF, bsm, Bool.false_eq_true, if_false, if_true, h]
  -- the reference's
  have hspec : ∀ r, Ev (fun k => spec_l10One.l2 k s (i : Int) (p : Int)) r → Ev (fun k => spec_l10One.f k s (i : Int)) r := by
    intro r er
    have e := upTo (fun k j => spec_l10One.l2 k s (i : Int) j) p (by omega) (p - (i + 1)) (i + 1) (by omega) (fun j r hj hjn e => by
      refine Ev.step (fun k => ?_) e
      have h := p3 j hj hjn
      simp only [spec_l10One.l2]
      rw [if_pos (by clear e1; omega), if_pos (by clear e1; omega), if_neg h.1, if_neg h.2]) r er
    refine Ev.same e (fun k => ?_)
    unfold spec_l10One.f
    simp only [if_pos c1, if_pos c2, l10Letter_f, l10Figure_f, hc, hl, hf, bsm, Bool.false_eq_true, if_false, if_true, e1]
  have himplN : ∀ t : Int, Go.Lib.indexByte (s.extract (i + 1) s.size).data.toList (Int.toNat 34).toUInt8 = t → (t < 1 ∨ 8 < t) → Ev (fun k => impl_tokenAt.f k s (i : Int)) (0, ⟨#[]⟩, 0) := by
    intro t ht h
    refine himpl _ ?_
    have hw : (decide (1 ≤ t) && decide (t ≤ 8)) = false := by rw [Bool.and_eq_false_iff, decide_eq_false_iff_not, decide_eq_false_iff_not]; clear e1; omega
    unfold impl_quoted.f strings_IndexByte.f
    simp only [e1, if_pos c3, if_pos c4, bsm, tn, within_f, ht, hw, Bool.false_eq_true, if_false]
  by_cases hps : p = s.size
  · have hq : q = s.size := by clear e1; omega
    rw [if_pos hq] at qi
    have t1 := himplN (-1) qi (by omega)
    have t2 := hspec (0, ⟨#[]⟩, 0) (Ev.done (fun k => by
      simp only [spec_l10One.l2]
      rw [if_neg (by clear e1; omega), if_pos (by rw [hps])]))
    exact ⟨_, _, t1, t2, Same.no⟩
  have hpl : p < s.size := by clear e1; omega
  have hpp : (p : Int) < (s.size : Int) := by clear e1; omega
  have hp0 : (0 : Int) ≤ (p : Int) := by clear e1; omega
  have hpn : ¬ (p : Int) = (s.size : Int) := by clear e1; omega
  by_cases h34 : bt s (p : Int) = 34
  · have hqp : q = p := by
      by_cases h : p < q
      · exact absurd h34 (q3 p p1 h)
      · clear e1; omega
    subst hqp
    rw [if_neg hps] at qi
    have n1 : ((i + 1 : Nat) : Int) + ((q - (i + 1) : Nat) : Int) = (q : Int) := by clear e1; omega
    have e2 : wrap64 (((i + 1 : Nat) : Int) + ((q - (i + 1) : Nat) : Int)) = (q : Int) := by rw [n1]; clear e1; exact w64 (by omega) (by omega)
    have e3 : wrap64 (((q - (i + 1) : Nat) : Int) + 2) = ((q - (i + 1) + 2 : Nat) : Int) := w2 (n := s.size + 2) (by clear e1 e2; omega) (by clear e1 e2; omega)
    have e4 : wrap64 ((q : Int) + 1) = ((q + 1 : Nat) : Int) := w1 (n := s.size + 2) (by clear e1 e2 e3; omega) (by clear e1 e2 e3; omega)
    have n3 : (q : Int) - (i : Int) = ((q - i : Nat) : Int) := by clear e1 e2 e3 e4; omega
    have n4 : ((q - i : Nat) : Int) - 1 = ((q - (i + 1) : Nat) : Int) := by clear e1 e2 e3 e4; omega
    have e5 : wrap64 ((wrap64 ((q : Int) - (i : Int))) - 1) = ((q - (i + 1) : Nat) : Int) := by
      clear e1 e2 e3 e4
      rw [w64 (x := (q : Int) - (i : Int)) (by omega) (by omega), n3, n4, w64 (by omega) (by omega)]
    have n5 : i + (q - (i + 1) + 2) = q + 1 := by clear e1 e2 e3 e4 e5; omega
    have n6 : q + 1 ≤ s.size := hpl
    have n7 : 0 < q - (i + 1) + 2 := Nat.succ_pos _
    have dd : (1 ≤ ((q - (i + 1) : Nat) : Int) ∧ ((q - (i + 1) : Nat) : Int) ≤ 8) ∨ (((q - (i + 1) : Nat) : Int) < 1 ∨ 8 < ((q - (i + 1) : Nat) : Int)) := by clear e1 e2 e3 e4 e5; omega
    rcases dd with hr | hr
    · have hw : (decide (1 ≤ ((q - (i + 1) : Nat) : Int)) && decide (((q - (i + 1) : Nat) : Int) ≤ 8)) = true := by simp only [hr.1, hr.2, decide_true, Bool.and_self]
      obtain ⟨z, z1, z2, z3, z4, zi⟩ := idx s (i + 1) q p1 q2 10 (by omega) (by omega)
      have hz : z = q := by
        by_cases h : z < q
        · exact absurd (z4 h) (p3 z z1 h).2
        · clear e1 e2 e3 e4 e5; omega
      rw [if_pos hz] at zi
      have hcon : strings_Contains.f (s.extract (i + 1) q) (⟨#[10]⟩ : ByteArray) = some false := by
        unfold strings_Contains.f
        rw [if_pos (show (⟨#[10]⟩ : ByteArray).size = 1 from rfl)]
        show some (decide (0 ≤ Go.Lib.indexByte (s.extract (i + 1) q).data.toList (Int.toNat 10).toUInt8)) = _
        rw [zi]
        rfl
      have t1 := himpl (3, s.extract (i + 1) q, ((q - (i + 1) + 2 : Nat) : Int)) (by
        unfold impl_quoted.f strings_IndexByte.f
        simp only [e1, if_pos c3, if_pos c4, bsm, tn, within_f, qi, hw, if_true, e2, if_pos d1, if_pos d2, hcon, Bool.false_eq_true, if_false, e3])
      have t2 := hspec (3, s.extract (i + 1) q, ((q + 1 : Nat) : Int)) (Ev.done (fun k => by
        simp only [spec_l10One.l2, if_pos hpp, if_pos hp0, h34, if_true, if_neg hpn, e5, l01In_f, hw, bsm, e1, if_pos c3, if_pos d1, if_pos d2, e4, tn]))
      exact ⟨_, _, t1, t2, Same.mk (q - (i + 1) + 2) n7 (by rw [n5]; exact n6) rfl (by rw [n5]) rfl rfl⟩
    · have hw : (decide (1 ≤ ((q - (i + 1) : Nat) : Int)) && decide (((q - (i + 1) : Nat) : Int) ≤ 8)) = false := by rw [Bool.and_eq_false_iff, decide_eq_false_iff_not, decide_eq_false_iff_not]; clear e1 e2 e3 e4 e5; omega
      have t1 := himplN _ qi hr
      have t2 := hspec (0, ⟨#[]⟩, 0) (Ev.done (fun k => by
        simp only [spec_l10One.l2, if_pos hpp, if_pos hp0, h34, if_true, if_neg hpn, e5, l01In_f, hw, bsm, Bool.false_eq_true, if_false]))
      exact ⟨_, _, t1, t2, Same.no⟩
  · have h10 : bt s (p : Int) = 10 := by
      have := p4 hpl
      by_cases h : bt s (p : Int) = 10
      · exact h
      · exact absurd ⟨h34, h⟩ this
    have t2 := hspec (0, ⟨#[]⟩, 0) (Ev.done (fun k => by
      simp only [spec_l10One.l2, if_pos hpp, if_pos hp0, h10, if_true, if_neg hpn, show ¬ ((10 : Int) = 34) by omega, if_false]))
    by_cases hq : q = s.size
    · rw [if_pos hq] at qi
      exact ⟨_, _, himplN (-1) qi (by omega), t2, Same.no⟩
    · rw [if_neg hq] at qi
      have hpq' : p < q := by
        by_cases h : p = q
        · have := q4 (by clear e1; omega); rw [← h, h10] at this; exact absurd this (by omega)
        · clear e1; omega
      have n1 : ((i + 1 : Nat) : Int) + ((q - (i + 1) : Nat) : Int) = (q : Int) := by clear e1; omega
      have e2 : wrap64 (((i + 1 : Nat) : Int) + ((q - (i + 1) : Nat) : Int)) = (q : Int) := by rw [n1]; clear e1; exact w64 (by omega) (by omega)
      have dd : (1 ≤ ((q - (i + 1) : Nat) : Int) ∧ ((q - (i + 1) : Nat) : Int) ≤ 8) ∨ (((q - (i + 1) : Nat) : Int) < 1 ∨ 8 < ((q - (i + 1) : Nat) : Int)) := by clear e1 e2; omega
      rcases dd with hr | hr
      · have hw : (decide (1 ≤ ((q - (i + 1) : Nat) : Int)) && decide (((q - (i + 1) : Nat) : Int) ≤ 8)) = true := by simp only [hr.1, hr.2, decide_true, Bool.and_self]
        obtain ⟨z, z1, z2, z3, z4, zi⟩ := idx s (i + 1) q q1 q2 10 (by omega) (by omega)
        have hz : ¬ z = q := by
          intro h
          exact z3 p p1 (by clear e1 e2; omega) h10
        rw [if_neg hz] at zi
        have hcon : strings_Contains.f (s.extract (i + 1) q) (⟨#[10]⟩ : ByteArray) = some true := by
          unfold strings_Contains.f
          rw [if_pos (show (⟨#[10]⟩ : ByteArray).size = 1 from rfl)]
          show some (decide (0 ≤ Go.Lib.indexByte (s.extract (i + 1) q).data.toList (Int.toNat 10).toUInt8)) = _
          rw [zi, decide_eq_true (by clear e1 e2; omega)]
        have t1 := himpl (0, ⟨#[]⟩, 0) (by
          unfold impl_quoted.f strings_IndexByte.f
          simp only [e1, if_pos c3, if_pos c4, bsm, tn, within_f, qi, hw, if_true, e2, if_pos d1, if_pos d2, hcon])
        exact ⟨_, _, t1, t2, Same.no⟩
      · exact ⟨_, _, himplN _ qi hr, t2, Same.no⟩

theorem set_ok (s : ByteArray) (hs : s.size ≤ 1048576) (i : Nat) (hi : i < s.size) (hc : bt s (i : Int) = 91) : ∃ a b, Ev (fun k => impl_tokenAt.f k s (i : Int)) a ∧ Ev (fun k => spec_l10One.f k s (i : Int)) b ∧ Same s i a b := by
  have hl : lt (91 : Int) = false := by decide
  have hf : fg (91 : Int) = false := by decide
  have hL : impl_isLetter.f (91 : Int) = some false := by rw [isLetter_f 91 (by omega) (by omega), hl]
  have hF : impl_isFigure.f (91 : Int) = some false := by rw [figure_f 91 (by omega) (by omega), hf]
  obtain ⟨q, q1, q2, q3, q4, qi⟩ := idx s i s.size (by omega) (Nat.le_refl _) 93 (by omega) (by omega)
  have qi1 : i + 1 ≤ q := by
    by_cases h : i = q
    · have := q4 (by omega); rw [← h, hc] at this; exact absurd this (by omega)
    · omega
  have c1 : (0 : Int) ≤ (i : Int) := by omega
  have c2 : (i : Int) < (s.size : Int) := by omega
  have c3 : (0 : Int) ≤ ((i + 1 : Nat) : Int) := by omega
  have c4 : (i : Int) ≤ (s.size : Int) := by omega
  have d1 : ((i + 1 : Nat) : Int) ≤ (q : Int) := by omega
  have d2 : (q : Int) ≤ (s.size : Int) := by omega
  have d0 : (0 : Int) ≤ (q : Int) := by omega
  have e1 : wrap64 ((i : Int) + 1) = ((i + 1 : Nat) : Int) := w1 (n := s.size + 2) (by omega) (by omega)
  have x1 : (91 : Int) ≠ 34 := by omega
  have himpl : ∀ a, Ev (fun k => impl_setToken.f k s (i : Int)) a → Ev (fun k => impl_tokenAt.f k s (i : Int)) a := by
    intro a h
    unfold impl_tokenAt.f
    simp only [if_pos c1, if_pos c2, hc, hL, hF, bsm, Bool.false_eq_true, if_false, if_true, if_neg x1]
    exact Ev.bind h (Ev.now _)
  have hspec : ∀ r, Ev (fun k => spec_l10One.l3 k s (i : Int) (q : Int)) r → Ev (fun k => spec_l10One.f k s (i : Int)) r := by
    intro r er
    have e := upTo (fun k j => spec_l10One.l3 k s (i : Int) j) q (by omega) (q - (i + 1)) (i + 1) (by omega) (fun j r hj hjn e => by
      refine Ev.step (fun k => ?_) e
      have h := q3 j (by clear e1; omega) hjn
      simp only [spec_l10One.l3]
      rw [if_pos (by clear e1; omega), if_pos (by clear e1; omega), if_neg h]) r er
    refine Ev.same e (fun k => ?_)
    unfold spec_l10One.f
    simp only [if_pos c1, if_pos c2, l10Letter_f, l10Figure_f, hc, hl, hf, bsm, Bool.false_eq_true, if_false, if_true, if_neg x1, e1]
  obtain ⟨b, b1, b2⟩ := sets_ok (s.extract (i + 1) q) (by rw [ByteArray.size_extract]; clear e1; omega)
  by_cases hq : q = s.size
  · rw [if_pos hq] at qi
    have hx : strings_IndexByte.f (s.extract i s.size) 93 = some (-1) := congrArg some qi
    have t1 := himpl (0, ⟨#[]⟩, 0) (Ev.just fun k => by
      unfold impl_setToken.f
      simp only [if_pos c1, if_pos c4, bsm, tn, hx, if_pos (show (-1 : Int) < 0 by omega)])
    have hqn : ¬ (q : Int) < (s.size : Int) := by clear e1; omega
    have hqe : (q : Int) = (s.size : Int) := by rw [hq]
    have t2 := hspec (0, ⟨#[]⟩, 0) (Ev.done (fun k => by
      simp only [spec_l10One.l3, if_neg hqn, if_pos hqe]))
    exact ⟨_, _, t1, t2, Same.no⟩
  · rw [if_neg hq] at qi
    have hx : strings_IndexByte.f (s.extract i s.size) 93 = some ((q - i : Nat) : Int) := congrArg some qi
    have hql : (q : Int) < (s.size : Int) := by clear e1; omega
    have hqn : ¬ (q : Int) = (s.size : Int) := by clear e1; omega
    have hqq : bt s (q : Int) = 93 := q4 (by clear e1; omega)
    have n0 : ¬ ((q - i : Nat) : Int) < 0 := by clear e1; omega
    have n1 : (i : Int) + ((q - i : Nat) : Int) = (q : Int) := by clear e1; omega
    have n5 : i + (q - i + 1) = q + 1 := by clear e1; omega
    have n6 : q + 1 ≤ s.size := by clear e1; omega
    have e2 : wrap64 ((i : Int) + ((q - i : Nat) : Int)) = (q : Int) := by rw [n1]; clear e1; exact w64 (by omega) (by omega)
    have e3 : wrap64 (((q - i : Nat) : Int) + 1) = ((q - i + 1 : Nat) : Int) := w1 (n := s.size + 2) (by clear e1 e2; omega) (by clear e1 e2; omega)
    have e4 : wrap64 ((q : Int) + 1) = ((q + 1 : Nat) : Int) := w1 (n := s.size + 2) (by clear e1 e2 e3; omega) (by clear e1 e2 e3; omega)
    have s1 : ∀ r, (∀ k : Nat, (if b = true then (some ((4 : Int), s.extract (i + 1) q, ((q - i + 1 : Nat) : Int))) else (some (0, (⟨#[]⟩ : ByteArray), 0))) = some r) → Ev (fun k => impl_setToken.f k s (i : Int)) r := by
      intro r h
      unfold impl_setToken.f
      simp only [if_pos c1, if_pos c4, bsm, hx, if_neg n0, e1, e2, if_pos c3, if_pos d1, if_pos d2, e3, tn]
      exact Ev.bind b2 (Ev.just h)
    have s2 : ∀ r, (∀ k : Nat, (if b = true then (some ((4 : Int), s.extract (i + 1) q, ((q + 1 : Nat) : Int))) else (some (0, (⟨#[]⟩ : ByteArray), 0))) = some r) → Ev (fun k => spec_l10One.l3 k s (i : Int) (q : Int)) r := by
      intro r h
      refine Ev.step (fun k => by simp only [spec_l10One.l3, if_pos hql, if_pos d0, hqq, if_true, if_neg hqn, e1, if_pos c3, if_pos d1, if_pos d2, e4, tn]; rfl) ?_
      exact Ev.bind b1 (Ev.just h)
    cases b with
    | true =>
      have t1 := himpl _ (s1 (4, s.extract (i + 1) q, ((q - i + 1 : Nat) : Int)) (fun k => by simp only [if_true]))
      have t2 := hspec _ (s2 (4, s.extract (i + 1) q, ((q + 1 : Nat) : Int)) (fun k => by simp only [if_true]))
      exact ⟨_, _, t1, t2, Same.mk (q - i + 1) (Nat.succ_pos _) (by rw [n5]; exact n6) rfl (by rw [n5]) rfl rfl⟩
    | false =>
      have t1 := himpl _ (s1 (0, ⟨#[]⟩, 0) (fun k => by simp only [Bool.false_eq_true, if_false]))
      have t2 := hspec _ (s2 (0, ⟨#[]⟩, 0) (fun k => by simp only [Bool.false_eq_true, if_false]))
      exact ⟨_, _, t1, t2, Same.no⟩

def signs : ByteArray := ⟨#[40, 41, 123, 125, 124, 42, 43, 63, 58, 44, 59, 61, 64, 45, 47, 60, 38, 33]⟩
theorem signs_l (s : ByteArray) (hs : s.size ≤ 1048576) (i : Nat) (hi : i < s.size) (c : Int) (h0 : 0 ≤ c) (h1 : c ≤ 255) : ∃ q : Int, strings_IndexByte.f signs c = some q ∧
    Ev (fun k => spec_l10One.j5 k s (i : Int) c) (if q ≥ 0 then (5, s.extract i (i + 1), ((i + 1 : Nat) : Int)) else (0, ⟨#[]⟩, 0)) := by
  obtain ⟨q, q1, q2, q3, q4, qi⟩ := idx signs 0 18 (by omega) (Nat.le_refl _) c h0 h1
  have hx : signs.extract 0 18 = signs := by rfl
  rw [hx] at qi
  have c1 : (0 : Int) ≤ (i : Int) := by omega
  have c2 : (i : Int) ≤ ((i + 1 : Nat) : Int) := by omega
  have c3 : ((i + 1 : Nat) : Int) ≤ (s.size : Int) := by omega
  have e1 : wrap64 ((i : Int) + 1) = ((i + 1 : Nat) : Int) := w1 (n := s.size + 2) (by omega) (by omega)
  refine ⟨_, congrArg some qi, ?_⟩
  refine Ev.step (f := fun k => spec_l10One.l4 k s (i : Int) c signs 0) (fun k => by simp only [spec_l10One.j5]; rfl) ?_
  have hsz : ((signs.size : Nat) : Int) = 18 := rfl
  refine upTo (fun k j => spec_l10One.l4 k s (i : Int) c signs j) q (by omega) q 0 (by omega) (fun j r hj hjn e => ?_) _ ?_
  · refine Ev.step (fun k => ?_) e
    simp only [spec_l10One.l4]
    rw [if_pos (by rw [hsz]; clear e1; omega), if_pos (by clear e1; omega), if_neg (q3 j (by clear e1; omega) hjn)]
  · by_cases hq : q = 18
    · rw [if_pos hq, if_neg (by omega)]
      refine Ev.done (fun k => ?_)
      simp only [spec_l10One.l4]
      rw [if_neg (by rw [hsz]; clear e1; omega)]
    · rw [if_neg hq, if_pos (by clear e1; omega)]
      refine Ev.done (fun k => ?_)
      have h18 : (q : Int) < 18 := by clear e1; omega
      simp only [spec_l10One.l4, hsz, if_pos h18, if_pos (show (0 : Int) ≤ (q : Int) by clear e1; omega), if_pos (q4 (by clear e1; omega)), if_pos c1, e1, if_pos c2, if_pos c3, tn]
theorem HasPrefix_f (s : ByteArray) (i : Nat) (hi : i < s.size) : strings_HasPrefix.f (s.extract i s.size) (⟨#[45, 62]⟩ : ByteArray) = some (decide (i + 1 < s.size ∧ bt s (i : Int) = 45 ∧ bt s ((i + 1 : Nat) : Int) = 62)) := by
  unfold strings_HasPrefix.f stringslite_HasPrefix.f
  have hsz : (((⟨#[45, 62]⟩ : ByteArray).size : Nat) : Int) = 2 := rfl
  have hsx : (s.extract i s.size).size = s.size - i := by rw [ByteArray.size_extract]; omega
  rw [hsz, hsx]
  by_cases h : i + 1 < s.size
  · rw [if_pos (by omega), if_pos (by omega), if_pos (by omega), bsm]
    congr 1
    rw [Bool.eq_iff_iff, beq_iff_eq, decide_eq_true_eq, ByteArray.toList_eq, ByteArray.toList_eq, ext_list, ext_list]
    have hl : s.data.toList.length = s.size := Array.length_toList
    rw [List.take_of_length_le (l := s.data.toList.drop i) (by rw [List.length_drop, hl]; omega)]
    have b1 := bt_list s i 45 (by omega) (by omega) (by omega)
    have b2 := bt_list s (i + 1) 62 (by omega) (by omega) h
    rw [b1, b2]
    have d1 : s.data.toList.drop i = s.data.toList[i]'(by rw [hl]; exact hi) :: s.data.toList[i + 1]'(by rw [hl]; exact h) :: s.data.toList.drop (i + 2) := by
      rw [List.drop_eq_getElem_cons (by rw [hl]; exact hi), List.drop_eq_getElem_cons (by rw [hl]; exact h)]
    rw [d1, List.getElem?_eq_getElem (by rw [hl]; exact hi), List.getElem?_eq_getElem (by rw [hl]; exact h)]
    simp [h]
  · rw [if_neg (by omega), bsm, decide_eq_false (fun h2 => h h2.1)]
theorem other_ok (s : ByteArray) (hs : s.size ≤ 1048576) (i : Nat) (hi : i < s.size) (hl : lt (bt s (i : Int)) = false) (hf : fg (bt s (i : Int)) = false) (h34 : bt s (i : Int) ≠ 34) (h91 : bt s (i : Int) ≠ 91) : ∃ a b, Ev (fun k => impl_tokenAt.f k s (i : Int)) a ∧ Ev (fun k => spec_l10One.f k s (i : Int)) b ∧ Same s i a b := by
  have bc := bt_range s (i : Int)
  have c1 : (0 : Int) ≤ (i : Int) := by omega
  have c2 : (i : Int) < (s.size : Int) := by omega
  have c4 : (i : Int) ≤ (s.size : Int) := by omega
  have c5 : (i : Int) ≤ ((i + 1 : Nat) : Int) := by omega
  have c6 : ((i + 1 : Nat) : Int) ≤ (s.size : Int) := by omega
  have c7 : (0 : Int) ≤ ((i + 1 : Nat) : Int) := by omega
  have hp := HasPrefix_f s i hi
  obtain ⟨q, qi, ej⟩ := signs_l s hs i hi (bt s (i : Int)) bc.1 bc.2
  have e2 : wrap64 ((i : Int) + 2) = ((i + 2 : Nat) : Int) := w2 (n := s.size + 2) (by omega) (by omega)
  have e1 : wrap64 ((i : Int) + 1) = ((i + 1 : Nat) : Int) := by clear e2; exact w1 (n := s.size + 2) (by omega) (by omega)
  by_cases hd : i + 1 < s.size ∧ bt s (i : Int) = 45 ∧ bt s ((i + 1 : Nat) : Int) = 62
  · rw [decide_eq_true hd] at hp
    have t1 : Ev (fun k => impl_tokenAt.f k s (i : Int)) (5, ⟨#[45, 62]⟩, 2) := Ev.just fun k => by
      unfold impl_tokenAt.f
      simp only [if_pos c1, if_pos c2, isLetter_f _ bc.1 bc.2, hl, figure_f _ bc.1 bc.2, hf, bsm, Bool.false_eq_true, if_false, if_neg h34, if_neg h91, if_pos c4, tn, hp, if_true]
    have d1 : ((i + 1 : Nat) : Int) < (s.size : Int) := by clear e1 e2; omega
    have t2 : Ev (fun k => spec_l10One.f k s (i : Int)) (5, ⟨#[45, 62]⟩, ((i + 2 : Nat) : Int)) := Ev.just fun k => by
      unfold spec_l10One.f
      simp only [if_pos c1, if_pos c2, l10Letter_f, l10Figure_f, hl, hf, bsm, Bool.false_eq_true, if_false, if_neg h34, if_neg h91, if_pos hd.2.1, e1, if_pos d1, if_pos c7, if_pos hd.2.2, e2]
    exact ⟨_, _, t1, t2, Same.mk 2 (by omega) (by clear e1 e2; omega) rfl rfl rfl rfl⟩
  · rw [decide_eq_false hd] at hp
    have t2 : Ev (fun k => spec_l10One.f k s (i : Int)) (if q ≥ 0 then (5, s.extract i (i + 1), ((i + 1 : Nat) : Int)) else (0, ⟨#[]⟩, 0)) := Ev.same ej fun k => by
      unfold spec_l10One.f
      simp only [if_pos c1, if_pos c2, l10Letter_f, l10Figure_f, hl, hf, bsm, Bool.false_eq_true, if_false, if_neg h34, if_neg h91, e1]
      by_cases h45 : bt s (i : Int) = 45
      · by_cases hs2 : ((i + 1 : Nat) : Int) < (s.size : Int)
        · rw [if_pos h45, if_pos hs2, if_pos c7, if_neg (fun h => hd ⟨by clear e1 e2; omega, h45, h⟩)]
        · rw [if_pos h45, if_neg hs2]
      · rw [if_neg h45]
    by_cases hq : q ≥ 0
    · rw [if_pos hq] at t2
      have t1 : Ev (fun k => impl_tokenAt.f k s (i : Int)) (5, s.extract i (i + 1), 1) := Ev.just fun k => by
        unfold impl_tokenAt.f
        simp only [if_pos c1, if_pos c2, isLetter_f _ bc.1 bc.2, hl, figure_f _ bc.1 bc.2, hf, bsm, Bool.false_eq_true, if_false, if_neg h34, if_neg h91, if_pos c4, tn, hp]
        have := qi
        unfold signs at this
        simp only [this, bsm, if_pos hq, e1, if_pos c5, if_pos c6, tn]
      exact ⟨_, _, t1, t2, Same.mk 1 (by omega) hi rfl rfl rfl rfl⟩
    · rw [if_neg hq] at t2
      have t1 : Ev (fun k => impl_tokenAt.f k s (i : Int)) (0, ⟨#[]⟩, 0) := Ev.just fun k => by
        unfold impl_tokenAt.f
        simp only [if_pos c1, if_pos c2, isLetter_f _ bc.1 bc.2, hl, figure_f _ bc.1 bc.2, hf, bsm, Bool.false_eq_true, if_false, if_neg h34, if_neg h91, if_pos c4, tn, hp]
        have := qi
        unfold signs at this
        simp only [this, bsm, if_neg hq]
      exact ⟨_, _, t1, t2, Same.no⟩
theorem token_ok (s : ByteArray) (hs : s.size ≤ 1048576) (i : Nat) (hi : i < s.size) : ∃ a b, Ev (fun k => impl_tokenAt.f k s (i : Int)) a ∧ Ev (fun k => spec_l10One.f k s (i : Int)) b ∧ Same s i a b := by
  cases hl : lt (bt s (i : Int)) with
  | true => exact letters_ok s hs i hi hl
  | false =>
    cases hf : fg (bt s (i : Int)) with
    | true => exact figures_ok s hs i hi hl hf
    | false =>
      by_cases h34 : bt s (i : Int) = 34
      · exact quoted_ok s hs i hi h34
      · by_cases h91 : bt s (i : Int) = 91
        · exact set_ok s hs i hi h91
        · exact other_ok s hs i hi hl hf h34 h91
/-- Behind blanks and remarks: both come to the same place. -/
theorem skips (s : ByteArray) (hs : s.size ≤ 1048576) : ∀ (d i : Nat), i + d = s.size → ∃ j, i ≤ j ∧ j ≤ s.size ∧ (j < s.size → bt s (j : Int) ≠ 32 ∧ bt s (j : Int) ≠ 10 ∧ bt s (j : Int) ≠ 35) ∧
    Ev (fun k => impl_skipped.l0 k s (i : Int)) (j : Int) ∧ ∀ acc r, Ev (fun k => spec_Tokens.l0 k s acc (j : Int)) r → Ev (fun k => spec_Tokens.l0 k s acc (i : Int)) r := by
  intro d
  induction d using Nat.strongRecOn with
  | ind d ih =>
  intro i hd
  by_cases hi : i < s.size
  case neg =>
    have hn : ¬ (i : Int) < (s.size : Int) := by omega
    exact ⟨i, Nat.le_refl _, by omega, fun h => absurd h hi, Ev.done (fun k => by simp only [impl_skipped.l0, if_neg hn]), fun acc r e => e⟩
  have c0 : (0 : Int) ≤ (i : Int) := by omega
  have c1 : (i : Int) < (s.size : Int) := by omega
  have c2 : (i : Int) ≤ (s.size : Int) := by omega
  have e1 : wrap64 ((i : Int) + 1) = ((i + 1 : Nat) : Int) := w1 (n := s.size + 2) (by omega) (by omega)
  have step1 : bt s (i : Int) = 32 ∨ bt s (i : Int) = 10 → ∀ r, Ev (fun k => impl_skipped.l0 k s ((i + 1 : Nat) : Int)) r → Ev (fun k => impl_skipped.l0 k s (i : Int)) r := by
    intro h r e
    refine Ev.step (f := fun k => impl_skipped.j1 k s (i : Int) (bt s (i : Int)) true) (fun k => ?_) (Ev.step (fun k => by simp only [impl_skipped.j1, if_true, e1]) e)
    simp only [impl_skipped.l0, if_pos c1, if_pos c0]
    by_cases h32 : bt s (i : Int) = 32
    · rw [if_pos h32, h32]; rfl
    · rw [if_neg h32, h.resolve_left h32]; rfl
  have step2 : bt s (i : Int) = 32 ∨ bt s (i : Int) = 10 → ∀ acc r, Ev (fun k => spec_Tokens.l0 k s acc ((i + 1 : Nat) : Int)) r → Ev (fun k => spec_Tokens.l0 k s acc (i : Int)) r := by
    intro h acc r e
    refine Ev.step (f := fun k => spec_Tokens.j1 k s acc (i : Int) true) (fun k => ?_) (Ev.step (fun k => by simp only [spec_Tokens.j1, if_true, e1]) e)
    simp only [spec_Tokens.l0, if_pos c1, if_pos c0]
    by_cases h32 : bt s (i : Int) = 32
    · rw [if_pos h32]
    · rw [if_neg h32, h.resolve_left h32]; rfl
  have other1 : bt s (i : Int) ≠ 32 → bt s (i : Int) ≠ 10 → ∀ r, Ev (fun k => impl_skipped.j1 k s (i : Int) (bt s (i : Int)) false) r → Ev (fun k => impl_skipped.l0 k s (i : Int)) r := by
    intro h1 h2 r e
    refine Ev.step (fun k => ?_) e
    simp only [impl_skipped.l0, if_pos c1, if_pos c0, if_neg h1]
    rw [show (bt s (i : Int) == 10) = false by simpa using h2]
  by_cases hb : bt s (i : Int) = 32 ∨ bt s (i : Int) = 10
  · obtain ⟨j, h1, h2, h3, h4, h5⟩ := ih (d - 1) (by clear e1; omega) (i + 1) (by clear e1; omega)
    exact ⟨j, by clear e1; omega, h2, h3, step1 hb _ h4, fun acc r e => step2 hb acc r (h5 acc r e)⟩
  have hb1 : bt s (i : Int) ≠ 32 := fun h => hb (.inl h)
  have hb2 : bt s (i : Int) ≠ 10 := fun h => hb (.inr h)
  by_cases h35 : bt s (i : Int) = 35
  case neg =>
    refine ⟨i, Nat.le_refl _, by clear e1; omega, fun _ => ⟨hb1, hb2, h35⟩, other1 hb1 hb2 _ (Ev.done (fun k => ?_)), fun acc r e => e⟩
    simp only [impl_skipped.j1, Bool.false_eq_true, if_false, if_neg h35]
  obtain ⟨q, q1, q2, q3, q4, qi⟩ := idx s i s.size (by clear e1; omega) (Nat.le_refl _) 10 (by omega) (by omega)
  have hiq : i < q := by
    by_cases h : i = q
    · exact absurd (q4 (by clear e1; omega)) (by rw [← h]; exact hb2)
    · clear e1; omega
  have spec2 : ∀ acc r, Ev (fun k => spec_Tokens.l0 k s acc (q : Int)) r → Ev (fun k => spec_Tokens.l0 k s acc (i : Int)) r := by
    intro acc r e
    refine Ev.step (f := fun k => spec_Tokens.j1 k s acc (i : Int) false) (fun k => ?_) (Ev.step (f := fun k => spec_Tokens.l1 k s acc (i : Int)) (fun k => ?_) ?_)
    · simp only [spec_Tokens.l0, if_pos c1, if_pos c0, if_neg hb1]
      rw [show (bt s (i : Int) == 10) = false by simpa using hb2]
    · simp only [spec_Tokens.j1, Bool.false_eq_true, if_false, if_pos c1, if_pos c0, if_pos h35]
    · refine upTo (fun k j => spec_Tokens.l1 k s acc j) q (by clear e1; omega) (q - i) i (by clear e1; omega) (fun j r hj hjn e => ?_) _ (Ev.step (fun k => ?_) e)
      · refine Ev.step (fun k => ?_) e
        simp only [spec_Tokens.l1]
        rw [if_pos (by clear e1; omega), if_pos (by clear e1; omega), if_neg (q3 j hj hjn)]
      · simp only [spec_Tokens.l1]
        by_cases h : q < s.size
        · rw [if_pos (by clear e1; omega), if_pos (by clear e1; omega), if_pos (q4 h)]
        · rw [if_neg (by clear e1; omega)]
  by_cases hq : q = s.size
  · rw [if_pos hq] at qi
    have hx : strings_IndexByte.f (s.extract i s.size) 10 = some (-1) := congrArg some qi
    refine ⟨q, by clear e1; omega, q2, fun h => absurd hq (by clear e1; omega), other1 hb1 hb2 _ (Ev.done (fun k => ?_)), spec2⟩
    simp only [impl_skipped.j1, Bool.false_eq_true, if_false, if_pos h35, if_pos c0, if_pos c2, tn, hx, bsm, if_pos (show (-1 : Int) < 0 by omega), hq]
  · rw [if_neg hq] at qi
    have hx : strings_IndexByte.f (s.extract i s.size) 10 = some ((q - i : Nat) : Int) := congrArg some qi
    obtain ⟨j, h1, h2, h3, h4, h5⟩ := ih (s.size - q) (by clear e1; omega) q (by clear e1; omega)
    have n0 : ¬ ((q - i : Nat) : Int) < 0 := by clear e1; omega
    have n1 : (i : Int) + ((q - i : Nat) : Int) = (q : Int) := by clear e1; omega
    have e2 : wrap64 ((i : Int) + ((q - i : Nat) : Int)) = (q : Int) := by rw [n1]; clear e1; exact w64 (by omega) (by omega)
    refine ⟨j, by clear e1 e2; omega, h2, h3, other1 hb1 hb2 _ (Ev.step (fun k => ?_) h4), fun acc r e => spec2 acc r (h5 acc r e)⟩
    simp only [impl_skipped.j1, Bool.false_eq_true, if_false, if_pos h35, if_pos c0, if_pos c2, tn, hx, bsm, if_neg n0, e2]

theorem tokens_main (s : ByteArray) (hs : s.size ≤ 600) : ∀ (d i : Nat), i + d = s.size → ∀ acc : List S29, acc.length ≤ i → (i < s.size → bt s (i : Int) ≠ 32 ∧ bt s (i : Int) ≠ 10 ∧ bt s (i : Int) ≠ 35) →
    ∃ r : List S29 × Int, Ev (fun k => impl_Tokens.l0 k s acc (i : Int)) r ∧ Ev (fun k => spec_Tokens.l0 k s acc (i : Int)) r ∧ r.1.length ≤ 600 ∧ (r.2 = 0 ∨ r.1 = []) := by
  intro d
  induction d using Nat.strongRecOn with
  | ind d ih =>
  intro i hd acc ha hnb
  by_cases hi : i < s.size
  case neg =>
    have hn : ¬ (i : Int) < (s.size : Int) := by omega
    exact ⟨(acc, 0), Ev.done (fun k => by simp only [impl_Tokens.l0, if_neg hn]), Ev.done (fun k => by simp only [spec_Tokens.l0, if_neg hn]), by show acc.length ≤ 600; omega, .inl rfl⟩
  obtain ⟨hb1, hb2, h35⟩ := hnb hi
  have c0 : (0 : Int) ≤ (i : Int) := by omega
  have c1 : (i : Int) < (s.size : Int) := by omega
  have cl : acc.length < 5864062014805 := by omega
  have e1 : wrap64 ((i : Int) + 1) = ((i + 1 : Nat) : Int) := w1 (n := s.size + 2) (by omega) (by omega)
  obtain ⟨a, b, ta, tb, hab⟩ := token_ok s (by clear e1; omega) i hi
  have stepI : ∀ r, Ev (fun k => if a.2.2 = 0 then (some (([] : List (S29)), ((i + 1 : Nat) : Int))) else (if (acc.length : Int) = 200 then (some (([] : List (S29)), ((i + 1 : Nat) : Int))) else ((impl_skipped.f k s (wrap64 ((i : Int) + a.2.2))).bind fun t197 => (impl_Tokens.l0 k s (acc ++ [(⟨a.1, a.2.1⟩ : S29)]) t197)))) r → Ev (fun k => impl_Tokens.l0 k s acc (i : Int)) r := by
    intro r e
    refine Ev.step (f := fun k => (impl_tokenAt.f k s (i : Int)).bind fun a => if a.2.2 = 0 then (some (([] : List (S29)), ((i + 1 : Nat) : Int))) else (if (acc.length : Int) = 200 then (some (([] : List (S29)), ((i + 1 : Nat) : Int))) else ((impl_skipped.f k s (wrap64 ((i : Int) + a.2.2))).bind fun t197 => (impl_Tokens.l0 k s (acc ++ [(⟨a.1, a.2.1⟩ : S29)]) t197)))) (fun k => ?_) (Ev.bind ta e)
    simp only [impl_Tokens.l0, if_pos c1, if_pos cl, e1]
  have stepS : ∀ r, Ev (fun k => if b.2.2 = 0 then (some (([] : List (S29)), ((i + 1 : Nat) : Int))) else (if (acc.length : Int) = 200 then (some (([] : List (S29)), ((i + 1 : Nat) : Int))) else (spec_Tokens.l0 k s (acc ++ [(⟨b.1, b.2.1⟩ : S29)]) b.2.2))) r → Ev (fun k => spec_Tokens.l0 k s acc (i : Int)) r := by
    intro r e
    refine Ev.step (f := fun k => spec_Tokens.j1 k s acc (i : Int) false) (fun k => ?_) (Ev.step (f := fun k => (spec_l10One.f k s (i : Int)).bind fun b => if b.2.2 = 0 then (some (([] : List (S29)), ((i + 1 : Nat) : Int))) else (if (acc.length : Int) = 200 then (some (([] : List (S29)), ((i + 1 : Nat) : Int))) else (spec_Tokens.l0 k s (acc ++ [(⟨b.1, b.2.1⟩ : S29)]) b.2.2))) (fun k => ?_) (Ev.bind tb e))
    · simp only [spec_Tokens.l0, if_pos c1, if_pos c0, if_neg hb1]
      rw [show (bt s (i : Int) == 10) = false by simpa using hb2]
    · simp only [spec_Tokens.j1, Bool.false_eq_true, if_false, if_pos c1, if_pos c0, if_neg h35, if_pos cl, e1]
  rcases hab with ⟨ha0, hb0⟩ | ⟨N, n0, n1, ha0, hb0, h1, h2⟩
  · exact ⟨([], ((i + 1 : Nat) : Int)), stepI _ (Ev.just fun k => by rw [if_pos ha0]), stepS _ (Ev.just fun k => by rw [if_pos hb0]), by simp, .inr rfl⟩
  · have na : ¬ a.2.2 = 0 := by rw [ha0]; clear e1; omega
    have nb : ¬ b.2.2 = 0 := by rw [hb0]; clear e1; omega
    by_cases h200 : (acc.length : Int) = 200
    · exact ⟨([], ((i + 1 : Nat) : Int)), stepI _ (Ev.just fun k => by rw [if_neg na, if_pos h200]), stepS _ (Ev.just fun k => by rw [if_neg nb, if_pos h200]), by simp, .inr rfl⟩
    · obtain ⟨j, j1, j2, j3, j4, j5⟩ := skips s (by clear e1; omega) (s.size - (i + N)) (i + N) (by clear e1; omega)
      obtain ⟨r, r1, r2, r3⟩ := ih (s.size - j) (by clear e1; omega) j (by clear e1; omega) (acc ++ [(⟨a.1, a.2.1⟩ : S29)]) (by rw [List.length_append, List.length_singleton]; clear e1; omega) j3
      have e2 : wrap64 ((i : Int) + a.2.2) = ((i + N : Nat) : Int) := by rw [ha0]; exact wc (n := s.size) n1 (by clear e1; omega)
      refine ⟨r, stepI r ?_, stepS r ?_, r3⟩
      · simp only [if_neg na, if_neg h200, e2]
        unfold impl_skipped.f
        exact Ev.bind j4 r1
      · rw [hb0] at nb
        simp only [hb0, if_neg nb, if_neg h200, ← h1, ← h2]
        exact j5 _ r r2
theorem tokens_ok (s : ByteArray) : ∃ r : List S29 × Int, Ev (fun k => impl_Tokens.f k s) r ∧ Ev (fun k => spec_Tokens.f k s) r ∧ r.1.length ≤ 600 ∧ (r.2 = 0 ∨ r.1 = []) := by
  by_cases h : (s.size : Int) > 600
  · refine ⟨([], 601), Ev.just fun k => ?_, Ev.just fun k => ?_, by simp, .inr rfl⟩
    · unfold impl_Tokens.f; rw [if_pos h]
    · unfold spec_Tokens.f; rw [bsm, if_pos h]
  · obtain ⟨j, j1, j2, j3, j4, j5⟩ := skips s (by omega) s.size 0 (by omega)
    obtain ⟨r, r1, r2, r3⟩ := tokens_main s (by omega) (s.size - j) j (by omega) [] (by simp) j3
    refine ⟨r, ?_, ?_, r3⟩
    · unfold impl_Tokens.f impl_skipped.f
      simp only [if_neg h]
      exact Ev.bind j4 r1
    · unfold spec_Tokens.f
      simp only [bsm, if_neg h]
      exact j5 _ r r2
end Go.Proofs.Ytceimgnkkclebaa.MTokFnTokenFaults
