/- The program's SetOk and the reference's come to the same, for every text. Plain lemmas; no condition. -/
import Derived.Test.YtceimgnkkclebaaLp
import Derived.Test.YtceimgnkkclebaaPFnTokenFaultsx9
namespace Go.Proofs.Ytceimgnkkclebaa.MSetFnTokenFaults
open Go.RowKit Go.Proofs.Ytceimgnkkclebaa.PFnTokenFaults Go.Proofs.YtceimgnkkclebaaPl Go.Proofs.YtceimgnkkclebaaLp Go.Proofs.YtceimgnkkclebaaW.PrintWords Go.Proofs.YtceimgnkkclebaaW.PrintLast
set_option linter.unusedVariables false
set_option linter.unusedSimpArgs false

/-- A loop that goes up from one place to another. -/
theorem upTo {ρ : Type} (l : Nat → Int → Option ρ) (q : Nat) (hq : q ≤ 4611686018427387904) : ∀ (d i : Nat), i + d = q → (∀ (j : Nat) (r : ρ), i ≤ j → j < q → Ev (fun k => l k (wrap64 ((j : Int) + 1))) r → Ev (fun k => l k (j : Int)) r) →
    ∀ r, Ev (fun k => l k (q : Int)) r → Ev (fun k => l k (i : Int)) r := by
  intro d
  induction d with
  | zero => intro i h _ r e; have : i = q := by omega
            subst this; exact e
  | succ d ih =>
    intro i h hs r e
    refine hs i r (Nat.le_refl _) (by omega) ?_
    rw [up64 (n := q) (by omega) hq]
    exact ih (i + 1) (by omega) (fun j r h1 h2 => hs j r (by omega) h2) r e
theorem firstNot (p : Nat → Prop) (n : Nat) : ∀ (d i : Nat), i + d = n → ∃ q, i ≤ q ∧ q ≤ n ∧ (∀ j, i ≤ j → j < q → p j) ∧ (q < n → ¬ p q) := by
  intro d
  induction d with
  | zero => intro i h; exact ⟨i, Nat.le_refl _, by omega, fun j h1 h2 => by omega, fun h => by omega⟩
  | succ d ih =>
    intro i h
    by_cases hp : p i
    · obtain ⟨q, h1, h2, h3, h4⟩ := ih (i + 1) (by omega)
      refine ⟨q, by omega, h2, fun j hj hj2 => ?_, h4⟩
      by_cases hij : j = i
      · subst hij; exact hp
      · exact h3 j (by omega) hj2
    · exact ⟨i, Nat.le_refl _, by omega, fun j h1 h2 => by omega, fun _ => hp⟩
theorem wc {i c n : Nat} (h : i + c ≤ n) (hn : n ≤ 4611686018427387904) : wrap64 ((i : Int) + (c : Int)) = ((i + c : Nat) : Int) := by unfold wrap64; omega
theorem w1 {i n : Nat} (h : i + 1 ≤ n) (hn : n ≤ 4611686018427387904) : wrap64 ((i : Int) + 1) = ((i + 1 : Nat) : Int) := by unfold wrap64; omega
theorem w2 {i n : Nat} (h : i + 2 ≤ n) (hn : n ≤ 4611686018427387904) : wrap64 ((i : Int) + 2) = ((i + 2 : Nat) : Int) := by unfold wrap64; omega
theorem w3 {i n : Nat} (h : i + 3 ≤ n) (hn : n ≤ 4611686018427387904) : wrap64 ((i : Int) + 3) = ((i + 3 : Nat) : Int) := by unfold wrap64; omega

def sm (c : Int) : Bool := decide (97 ≤ c) && decide (c ≤ 122)
def fg (c : Int) : Bool := decide (48 ≤ c) && decide (c ≤ 57)
def sb (c : Int) : Bool := sm c || fg c
theorem within_f (a b c : Int) : impl_within.f a b c = some (decide (b ≤ a) && decide (a ≤ c)) := by
  unfold impl_within.f
  by_cases h : a ≥ b <;> simp [h] <;> omega
theorem small_f (c : Int) (h0 : 0 ≤ c) (h1 : c ≤ 255) : impl_isSmall.f c = some (sm c) := by
  unfold impl_isSmall.f
  rw [within_f, w64 (by omega) (by omega)]; rfl
theorem figure_f (c : Int) (h0 : 0 ≤ c) (h1 : c ≤ 255) : impl_isFigure.f c = some (fg c) := by
  unfold impl_isFigure.f
  rw [within_f, w64 (by omega) (by omega)]; rfl
theorem isSetByte_f (c : Int) (h0 : 0 ≤ c) (h1 : c ≤ 255) : impl_isSetByte.f c = some (sb c) := by
  unfold impl_isSetByte.f
  rw [small_f c h0 h1, figure_f c h0 h1, Option.bind_some, Option.bind_some]
  unfold sb
  cases sm c <;> simp
theorem l05Byte_f (c : Int) : spec_l05Byte.f c = some (sb c) := by
  unfold spec_l05Byte.f sb sm fg
  by_cases h1 : c ≥ 97 <;> by_cases h2 : c ≤ 122 <;> by_cases h3 : c ≥ 48 <;> simp [h1, h2, h3] <;> omega
theorem l01In_f (a b c : Int) : spec_l01In.f a b c = some (decide (b ≤ a) && decide (a ≤ c)) := by
  unfold spec_l01In.f
  by_cases h : a ≥ b <;> simp [h] <;> omega
/-- What a row of a set wants of its ends. -/
def rowOk (f l : Int) : Bool := sb f && sb l && (sm f == sm l) && decide (f ≤ l)
theorem strOfNums_two (a b : Int) : (strOfNums [a, b]).size = 2 := rfl
theorem sm_of (c : Int) (h : sb c = true) : sm c = decide (c > 57) := by
  unfold sb sm fg at h
  unfold sm
  by_cases h1 : 97 ≤ c <;> by_cases h2 : c ≤ 122 <;> by_cases h3 : 48 ≤ c <;> by_cases h4 : c ≤ 57 <;> simp [h1, h2, h3, h4] at h ⊢ <;> omega

theorem j3_bad (x : ByteArray) (acc : List Int) (p f l : Int) : Ev (fun k => impl_readSet.j3 k x acc p f l true) ([], false) := Ev.done (fun k => by simp only [impl_readSet.j3, if_true])
theorem j2_bad (x : ByteArray) (acc : List Int) (p f l : Int) (hf : 0 ≤ f ∧ f ≤ 255) (hl : 0 ≤ l ∧ l ≤ 255) (h : rowOk f l = false) : Ev (fun k => impl_readSet.j2 k x acc p f l) ([], false) := by
  refine Ev.step (fun k => by simp only [impl_readSet.j2, isSetByte_f f hf.1 hf.2, isSetByte_f l hl.1 hl.2, small_f f hf.1 hf.2, small_f l hl.1 hl.2, Option.bind_some]; rfl) ?_
  cases h1 : sb f with
  | false => simp only [Bool.false_eq_true, if_false]; exact j3_bad _ _ _ _ _
  | true =>
    cases h2 : sb l with
    | false => simp only [Bool.false_eq_true, if_false, if_true]; exact j3_bad _ _ _ _ _
    | true =>
      simp only [if_true]
      by_cases h3 : (sm f != sm l) = true
      · simp only [if_pos h3]; exact j3_bad _ _ _ _ _
      · simp only [if_neg h3]
        have h4 : ¬ f ≤ l := by
          intro h4
          simp [rowOk, h1, h2, h4] at h
          exact h3 (by simpa using h)
        rw [decide_eq_true (by omega : l < f)]
        exact j3_bad _ _ _ _ _
theorem l1_run (x : ByteArray) (p l : Int) (hl : 0 ≤ l ∧ l ≤ 255) : ∀ (d : Nat) (c : Int) (acc : List Int), (l + 1 - c).toNat = d → 0 ≤ c → c ≤ 256 → acc.length + d < 140737488355328 → ∃ acc', acc'.length ≤ acc.length + d ∧ ∀ r, Ev (fun k => impl_readSet.l0 k x acc' p) r → Ev (fun k => impl_readSet.l1 k x acc p l c) r := by
  intro d
  induction d with
  | zero =>
    intro c acc hd h0 h1 hlen
    refine ⟨acc, Nat.le_refl _, fun r e => Ev.step (fun k => ?_) e⟩
    simp only [impl_readSet.l1]
    rw [w64 (by omega) (by omega), if_neg (by omega)]
  | succ d ih =>
    intro c acc hd h0 h1 hlen
    obtain ⟨acc', ha, e⟩ := ih (c + 1) (acc ++ [c % 256]) (by omega) (by omega) (by omega) (by simp; omega)
    refine ⟨acc', by simp at ha; omega, fun r er => Ev.step (fun k => ?_) (e r er)⟩
    simp only [impl_readSet.l1]
    rw [w64 (x := l) (by omega) (by omega), if_pos (by omega), if_pos (by omega), w64 (x := c + 1) (by omega) (by omega)]
theorem j2_good (x : ByteArray) (acc : List Int) (p f l : Int) (hf : 0 ≤ f ∧ f ≤ 255) (hl : 0 ≤ l ∧ l ≤ 255) (h : rowOk f l = true) (hlen : acc.length + 256 < 140737488355328) :
    ∃ acc', acc'.length ≤ acc.length + 256 ∧ ∀ r, Ev (fun k => impl_readSet.l0 k x acc' p) r → Ev (fun k => impl_readSet.j2 k x acc p f l) r := by
  obtain ⟨acc', ha, e⟩ := l1_run x p l hl (l + 1 - f).toNat f acc rfl hf.1 (by omega) (by omega)
  refine ⟨acc', by omega, fun r er => ?_⟩
  simp only [rowOk, Bool.and_eq_true, beq_iff_eq, decide_eq_true_eq] at h
  obtain ⟨⟨⟨h1, h2⟩, h3⟩, h4⟩ := h
  refine Ev.step (fun k => by simp only [impl_readSet.j2, isSetByte_f f hf.1 hf.2, isSetByte_f l hl.1 hl.2, small_f f hf.1 hf.2, small_f l hl.1 hl.2, Option.bind_some, h1, h2, h3, if_true, bne_self_eq_false, Bool.false_eq_true, if_false]; rfl) ?_
  refine Ev.step (fun k => by simp only [impl_readSet.j3, decide_eq_true_eq]; rw [if_neg (by omega), w64 (x := f) (by omega) (by omega)]) ?_
  exact e r er

theorem sets_main (x : ByteArray) (hx : x.size ≤ 1048576) : ∀ (d i : Nat), i + d = x.size → ∃ b,
    (∀ rows : ByteArray, rows.size ≤ 2 * i → ∃ r, Ev (fun k => spec_l05Rows.l0 k x rows (i : Int)) (r, b)) ∧
    (∀ acc : List Int, acc.length ≤ 256 * i → ∃ r, Ev (fun k => impl_readSet.l0 k x acc (i : Int)) (r, b)) := by
  intro d
  induction d using Nat.strongRecOn with
  | ind d ih =>
  intro i hd
  by_cases hi : i < x.size
  case neg =>
    have hi' : i = x.size := by omega
    subst hi'
    refine ⟨decide ((1 : Int) ≤ (x.size : Int)) && decide ((x.size : Int) ≤ 12), fun rows hr => ⟨rows, Ev.done (fun k => ?_)⟩, fun acc ha => ⟨[], Ev.done (fun k => ?_)⟩⟩
    · simp only [spec_l05Rows.l0]; rw [if_neg (by omega), l01In_f]; rfl
    · simp only [impl_readSet.l0, slices_Sort_byte_byte.f, slices_Compact_byte_byte.f]; rw [if_neg (by omega), if_pos (by omega), Option.bind_some, Option.bind_some, within_f]; rfl
  have bc := bt_range x (i : Int)
  have e0 : wrap64 ((i : Int) + 1) = ((i + 1 : Nat) : Int) := w1 (n := x.size + 2) (by omega) (by omega)
  have e2 : wrap64 ((i : Int) + 2) = ((i + 2 : Nat) : Int) := w2 (n := x.size + 2) (by omega) (by omega)
  -- the program's step
  have impl0 : ∀ (acc : List Int) r, (i + 1 < x.size ∧ bt x ((i + 1 : Nat) : Int) = 45 → Ev (fun k => impl_readSet.j1 k x acc ((i + 1 : Nat) : Int) (bt x (i : Int)) (bt x (i : Int)) true) r) → (¬ (i + 1 < x.size ∧ bt x ((i + 1 : Nat) : Int) = 45) → Ev (fun k => impl_readSet.j2 k x acc ((i + 1 : Nat) : Int) (bt x (i : Int)) (bt x (i : Int))) r) → Ev (fun k => impl_readSet.l0 k x acc (i : Int)) r := by
    intro acc r h1 h2
    by_cases hs : i + 1 < x.size
    · by_cases hd : bt x ((i + 1 : Nat) : Int) = 45
      · refine Ev.step (fun k => ?_) (h1 ⟨hs, hd⟩)
        simp only [impl_readSet.l0]
        rw [if_pos (by omega), if_pos (by omega), e0, if_pos (by omega), if_pos (by omega), hd]
        rfl
      · refine Ev.step (f := fun k => impl_readSet.j1 k x acc ((i + 1 : Nat) : Int) (bt x (i : Int)) (bt x (i : Int)) false) (fun k => ?_) (Ev.step (fun k => ?_) (h2 (fun h => hd h.2)))
        · simp only [impl_readSet.l0]
          rw [if_pos (by omega), if_pos (by omega), e0, if_pos (by omega), if_pos (by omega)]
          rw [show (bt x ((i + 1 : Nat) : Int) == 45) = false by simpa using hd]
        · simp only [impl_readSet.j1, Bool.false_eq_true, if_false]
    · refine Ev.step (f := fun k => impl_readSet.j1 k x acc ((i + 1 : Nat) : Int) (bt x (i : Int)) (bt x (i : Int)) false) (fun k => ?_) (Ev.step (fun k => ?_) (h2 (fun h => hs h.1)))
      · simp only [impl_readSet.l0]
        rw [if_pos (by omega), if_pos (by omega), e0, if_neg (by omega)]
      · simp only [impl_readSet.j1, Bool.false_eq_true, if_false]
  have e1w : wrap64 (((i + 1 : Nat) : Int) + 1) = ((i + 2 : Nat) : Int) := w1 (n := x.size + 2) (by omega) (by omega)
  have e2w : wrap64 (((i + 1 : Nat) : Int) + 2) = ((i + 3 : Nat) : Int) := w2 (n := x.size + 3) (by omega) (by omega)
  have implD : ∀ (acc : List Int) r, i + 2 < x.size → Ev (fun k => impl_readSet.j2 k x acc ((i + 3 : Nat) : Int) (bt x (i : Int)) (bt x ((i + 2 : Nat) : Int))) r → Ev (fun k => impl_readSet.j1 k x acc ((i + 1 : Nat) : Int) (bt x (i : Int)) (bt x (i : Int)) true) r := by
    intro acc r h e
    refine Ev.step (fun k => ?_) e
    simp only [impl_readSet.j1, if_true]
    rw [e1w, if_neg (by omega), if_pos (by omega), if_pos (by omega), e2w]
  have implE : ∀ (acc : List Int), i + 2 = x.size → Ev (fun k => impl_readSet.j1 k x acc ((i + 1 : Nat) : Int) (bt x (i : Int)) (bt x (i : Int)) true) ([], false) := by
    intro acc h
    refine Ev.done (fun k => ?_)
    simp only [impl_readSet.j1, if_true]
    rw [e1w, if_pos (by omega)]
  -- the reference's step
  by_cases hb : sb (bt x (i : Int)) = true
  case neg =>
    have hb' : sb (bt x (i : Int)) = false := by simpa using hb
    refine ⟨false, fun rows hr => ⟨⟨#[]⟩, Ev.done (fun k => ?_)⟩, fun acc ha => ⟨[], ?_⟩⟩
    · simp only [spec_l05Rows.l0]
      rw [if_pos (by omega), if_pos (by omega), l05Byte_f, hb', Option.bind_some, if_neg (by decide)]
    · refine impl0 acc _ (fun h => ?_) (fun h => j2_bad _ _ _ _ _ bc bc (by simp [rowOk, hb']))
      by_cases h2 : i + 2 < x.size
      · exact implD acc _ h2 (j2_bad _ _ _ _ _ bc (bt_range _ _) (by simp [rowOk, hb']))
      · exact implE acc (by omega)
  have spec0 : ∀ (rows : ByteArray) r, (i + 2 < x.size ∧ bt x ((i + 1 : Nat) : Int) = 45 → Ev (fun k => spec_l05Rows.j1 k x rows (i : Int) (bt x (i : Int)) ((i + 1 : Nat) : Int) true) r) → (¬ (i + 2 < x.size ∧ bt x ((i + 1 : Nat) : Int) = 45) → Ev (fun k => spec_l05Rows.j1 k x rows (i : Int) (bt x (i : Int)) ((i + 1 : Nat) : Int) false) r) → Ev (fun k => spec_l05Rows.l0 k x rows (i : Int)) r := by
    intro rows r h1 h2
    by_cases hs : i + 2 < x.size
    · by_cases hd : bt x ((i + 1 : Nat) : Int) = 45
      · refine Ev.step (fun k => ?_) (h1 ⟨hs, hd⟩)
        simp only [spec_l05Rows.l0]
        rw [if_pos (by omega), if_pos (by omega), l05Byte_f, hb, Option.bind_some, if_pos rfl, e2, if_pos (by omega), e0, if_pos (by omega), if_pos (by omega), hd]
        rfl
      · refine Ev.step (fun k => ?_) (h2 (fun h => hd h.2))
        simp only [spec_l05Rows.l0]
        rw [if_pos (by omega), if_pos (by omega), l05Byte_f, hb, Option.bind_some, if_pos rfl, e2, if_pos (by omega), e0, if_pos (by omega), if_pos (by omega)]
        rw [show (bt x ((i + 1 : Nat) : Int) == 45) = false by simpa using hd]
    · refine Ev.step (fun k => ?_) (h2 (fun h => hs h.1))
      simp only [spec_l05Rows.l0]
      rw [if_pos (by omega), if_pos (by omega), l05Byte_f, hb, Option.bind_some, if_pos rfl, e2, if_neg (by omega), e0]
  have specN : ∀ (rows : ByteArray) r, rows.size ≤ 2 * i → (∀ rows' : ByteArray, rows'.size ≤ 2 * (i + 1) → ∃ r', Ev (fun k => spec_l05Rows.l0 k x rows' ((i + 1 : Nat) : Int)) (r', r)) → ∃ r', Ev (fun k => spec_l05Rows.j1 k x rows (i : Int) (bt x (i : Int)) ((i + 1 : Nat) : Int) false) (r', r) := by
    intro rows r hr e
    obtain ⟨r', e⟩ := e (rows ++ strOfNums [bt x (i : Int), bt x (i : Int)]) (by rw [ByteArray.size_append, strOfNums_two]; omega)
    refine ⟨r', Ev.step (fun k => ?_) e⟩
    simp only [spec_l05Rows.j1, Bool.false_eq_true, if_false, Option.bind_some]
    rw [if_pos (by omega), if_pos (by omega), if_pos (by rw [strOfNums_two]; omega)]
  have specD : ∀ (rows : ByteArray), rows.size ≤ 2 * i → i + 2 < x.size → (rowOk (bt x (i : Int)) (bt x ((i + 2 : Nat) : Int)) = false → Ev (fun k => spec_l05Rows.j1 k x rows (i : Int) (bt x (i : Int)) ((i + 1 : Nat) : Int) true) (⟨#[]⟩, false)) ∧
      (rowOk (bt x (i : Int)) (bt x ((i + 2 : Nat) : Int)) = true → ∀ r, Ev (fun k => spec_l05Rows.l0 k x (rows ++ strOfNums [bt x (i : Int), bt x ((i + 2 : Nat) : Int)]) ((i + 3 : Nat) : Int)) r → Ev (fun k => spec_l05Rows.j1 k x rows (i : Int) (bt x (i : Int)) ((i + 1 : Nat) : Int) true) r) := by
    intro rows hr h
    have e3 : wrap64 ((i : Int) + 3) = ((i + 3 : Nat) : Int) := w3 (n := x.size + 3) (by omega) (by omega)
    have bl := bt_range x ((i + 2 : Nat) : Int)
    have key : rowOk (bt x (i : Int)) (bt x ((i + 2 : Nat) : Int)) = (sb (bt x ((i + 2 : Nat) : Int)) && !decide (bt x ((i + 2 : Nat) : Int) < bt x (i : Int)) && !((decide (bt x ((i + 2 : Nat) : Int) > 57)) != (decide (bt x (i : Int) > 57)))) := by
      generalize bt x (i : Int) = c at *
      generalize bt x ((i + 2 : Nat) : Int) = l at *
      unfold rowOk
      rw [hb, sm_of c hb]
      cases h : sb l with
      | false => simp
      | true =>
        rw [sm_of l h]
        by_cases h1 : c > 57 <;> by_cases h2 : l > 57 <;> by_cases h3 : l < c <;> simp [h1, h2, h3] <;> omega
    constructor
    · intro hk
      rw [key] at hk
      refine Ev.done (fun k => ?_)
      simp only [spec_l05Rows.j1, if_true]
      rw [e2, if_pos (by omega), if_pos (by omega), l05Byte_f, Option.bind_some]
      cases h1 : sb (bt x ((i + 2 : Nat) : Int)) with
      | false => rw [if_neg (by decide)]
      | true =>
        rw [if_pos rfl, if_pos (by omega), if_pos (by omega)]
        by_cases h2 : bt x ((i + 2 : Nat) : Int) < bt x (i : Int)
        · rw [if_pos h2]
        · rw [if_neg h2, if_pos]
          rw [h1, decide_eq_false h2] at hk
          simpa only [Bool.true_and, Bool.not_false, Bool.not_eq_false'] using hk
    · intro hk r e
      rw [key] at hk
      refine Ev.step (fun k => ?_) e
      simp only [Bool.and_eq_true, Bool.not_eq_true', decide_eq_false_iff_not] at hk
      simp only [spec_l05Rows.j1, if_true, Option.bind_some]
      rw [e2, if_pos (by omega), if_pos (by omega), l05Byte_f, Option.bind_some, hk.1.1, if_pos rfl, if_pos (by omega), if_pos (by omega), if_neg hk.1.2, hk.2, if_neg (by decide), if_pos (by rw [strOfNums_two]; omega), e3]
  obtain ⟨b1, s1, p1⟩ := ih (d - 1) (by omega) (i + 1) (by omega)
  by_cases hdash : i + 1 < x.size ∧ bt x ((i + 1 : Nat) : Int) = 45
  · by_cases h2 : i + 2 < x.size
    · obtain ⟨b3, s3, p3⟩ := ih (d - 3) (by omega) (i + 3) (by omega)
      have bl := bt_range x ((i + 2 : Nat) : Int)
      cases hk : rowOk (bt x (i : Int)) (bt x ((i + 2 : Nat) : Int)) with
      | false =>
        refine ⟨false, fun rows hr => ⟨_, spec0 rows _ (fun _ => (specD rows hr h2).1 hk) (fun h => absurd ⟨h2, hdash.2⟩ h)⟩, fun acc ha => ⟨_, impl0 acc _ (fun _ => implD acc _ h2 (j2_bad _ _ _ _ _ bc bl hk)) (fun h => absurd hdash h)⟩⟩
      | true =>
        refine ⟨b3, fun rows hr => ?_, fun acc ha => ?_⟩
        · obtain ⟨r', e⟩ := s3 (rows ++ strOfNums [bt x (i : Int), bt x ((i + 2 : Nat) : Int)]) (by rw [ByteArray.size_append, strOfNums_two]; omega)
          exact ⟨r', spec0 rows _ (fun _ => (specD rows hr h2).2 hk _ e) (fun h => absurd ⟨h2, hdash.2⟩ h)⟩
        · obtain ⟨acc', ha', e⟩ := j2_good x acc ((i + 3 : Nat) : Int) _ _ bc bl hk (by omega)
          obtain ⟨r', e'⟩ := p3 acc' (by omega)
          exact ⟨r', impl0 acc _ (fun _ => implD acc _ h2 (e _ e')) (fun h => absurd hdash h)⟩
    · -- a dash at the end
      refine ⟨false, fun rows hr => ?_, fun acc ha => ⟨_, impl0 acc _ (fun _ => implE acc (by omega)) (fun h => absurd hdash h)⟩⟩
      obtain ⟨r', e⟩ := specN rows false hr (fun rows' hr' => ⟨⟨#[]⟩, Ev.done (fun k => by
        simp only [spec_l05Rows.l0]
        rw [if_pos (by omega), if_pos (by omega), l05Byte_f, hdash.2, Option.bind_some, if_neg (by decide)])⟩)
      exact ⟨r', spec0 rows _ (fun h => absurd h.1 h2) (fun _ => e)⟩
  · have hk : rowOk (bt x (i : Int)) (bt x (i : Int)) = true := by simp [rowOk, hb]
    refine ⟨b1, fun rows hr => ?_, fun acc ha => ?_⟩
    · obtain ⟨r', e⟩ := specN rows b1 hr s1
      exact ⟨r', spec0 rows _ (fun h => absurd ⟨by omega, h.2⟩ hdash) (fun _ => e)⟩
    · obtain ⟨acc', ha', e⟩ := j2_good x acc ((i + 1 : Nat) : Int) _ _ bc bc hk (by omega)
      obtain ⟨r', e'⟩ := p1 acc' (by omega)
      exact ⟨r', impl0 acc _ (fun h => absurd h hdash) (fun _ => e _ e')⟩

theorem sets_ok (x : ByteArray) (hx : x.size ≤ 1048576) : ∃ b, Ev (fun k => spec_SetOk.f k x) b ∧ Ev (fun k => impl_SetOk.f k x) b := by
  obtain ⟨b, h1, h2⟩ := sets_main x hx x.size 0 (by omega)
  obtain ⟨r1, e1⟩ := h1 ⟨#[]⟩ (by show 0 ≤ _; omega)
  obtain ⟨r2, e2⟩ := h2 [] (by simp)
  refine ⟨b, ?_, ?_⟩
  · unfold spec_SetOk.f spec_l05Rows.f
    exact Ev.bind e1 (Ev.now _)
  · unfold impl_SetOk.f impl_readSet.f
    exact Ev.bind e2 (Ev.now _)
end Go.Proofs.Ytceimgnkkclebaa.MSetFnTokenFaults
