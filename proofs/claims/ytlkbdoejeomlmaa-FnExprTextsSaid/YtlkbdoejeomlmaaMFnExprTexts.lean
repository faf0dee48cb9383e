/- The program's ExprText and the reference's come to the same on plain lists of at most 1048576 places each. -/
import Derived.Test.YtlkbdoejeomlmaaPFnExprTextsx
import Derived.Test.YtlkbdoejeomlmaaLp
namespace Go.Proofs.Ytlkbdoejeomlmaa.MFnExprTexts
open Go.RowKit Go.Proofs.Ytlkbdoejeomlmaa.PFnExprTexts Go.Proofs.YtlkbdoejeomlmaaPl Go.Proofs.YtlkbdoejeomlmaaLp Go.Proofs.YtlkbdoejeomlmaaW.PrintWords Go.Proofs.YtlkbdoejeomlmaaW.PrintLast Go.Proofs.YtlkbdoejeomlmaaW.PrintMore
set_option linter.unusedVariables false

theorem within_ok (a b c : Int) : impl_within.f a b c = some (decide (b ≤ a ∧ a ≤ c)) := by
  unfold impl_within.f
  by_cases h : a ≥ b
  · rw [if_pos h]; simp [h]
  · rw [if_neg h]; simp; omega
theorem in_ok (a b c : Int) : spec_l01In.f a b c = some (decide (b ≤ a ∧ a ≤ c)) := by
  unfold spec_l01In.f
  by_cases h : a ≥ b
  · rw [if_pos h]; simp [h]
  · rw [if_neg h]; simp; omega
theorem rdInt (l : List Int) (i : Nat) : rd l (i : Int) = l.getD i 0 := by
  have h : (i : Int).toNat = i := by omega
  unfold rd
  rw [h]
theorem rdX (l : List S32) (i : Nat) : rd_T32 l (i : Int) = l.getD i z32 := by
  have h : (i : Int).toNat = i := by omega
  unfold rd_T32
  rw [h]
theorem bt_lim (s : ByteArray) (i : Int) : 0 ≤ bt s i ∧ bt s i ≤ 255 := by
  unfold bt
  by_cases h : i.toNat < s.size
  · rw [dif_pos h]
    have := UInt8.toNat_lt (s[i.toNat]'h)
    omega
  · rw [dif_neg h]; omega

/-! ### a name -/
def letter (s : ByteArray) (i : Nat) : Prop := 97 ≤ bt s (i : Int) ∧ bt s (i : Int) ≤ 122
instance (s : ByteArray) (i : Nat) : Decidable (letter s i) := by unfold letter; infer_instance
/-- One to four small letters. -/
noncomputable def vn (s : ByteArray) : Bool := @decide (∀ i, i < s.size → letter s i) (Classical.propDecidable _) && decide (1 ≤ (s.size : Int) ∧ (s.size : Int) ≤ 4)
theorem vn_pos {s : ByteArray} (h : ∀ i, i < s.size → letter s i) : vn s = decide (1 ≤ (s.size : Int) ∧ (s.size : Int) ≤ 4) := by
  unfold vn
  rw [@decide_eq_true _ (Classical.propDecidable _) h, Bool.true_and]
theorem vn_neg {s : ByteArray} (h : ¬ ∀ i, i < s.size → letter s i) : vn s = false := by
  unfold vn
  rw [@decide_eq_false _ (Classical.propDecidable _) h, Bool.false_and]
theorem vn_size {s : ByteArray} (h : vn s = true) : s.size ≤ 4 := by
  unfold vn at h
  rw [Bool.and_eq_true] at h
  have := of_decide_eq_true h.2
  omega

theorem small_ok (s : ByteArray) (i : Nat) : impl_isSmall.f (bt s (i : Int)) = some (decide (letter s i)) := by
  have := bt_lim s (i : Int)
  unfold impl_isSmall.f
  rw [w64 (x := bt s (i : Int)) (by omega) (by omega), within_ok]
  rfl
theorem impl_name (s : ByteArray) (hs : s.size ≤ 1048576) : Ev (fun k => impl_VarName.f k s) (vn s) := by
  have h := each (fun k j => impl_VarName.l0 k s (s.size : Int) j) s.size (letter s) false (by omega)
    (fun j hj hp => Ev.done fun k => by
      simp only [impl_VarName.l0]
      rw [if_pos (by omega), if_pos (by omega), if_pos (by omega), small_ok, decide_eq_false hp, Option.bind_some, if_neg Bool.false_ne_true])
    (fun j r hj hp e => Ev.next e fun k => by
      simp only [impl_VarName.l0]
      rw [if_pos (by omega), if_pos (by omega), if_pos (by omega), small_ok, decide_eq_true hp, Option.bind_some, if_pos rfl])
  unfold impl_VarName.f
  by_cases hp : ∀ i, i < s.size → letter s i
  · rw [vn_pos hp]
    refine h.1 _ hp (Ev.done (fun k => ?_))
    simp only [impl_VarName.l0]
    rw [if_neg (by omega), within_ok]
    rfl
  · rw [vn_neg hp]; exact h.2 hp
theorem spec_name (s : ByteArray) (hs : s.size ≤ 1048576) : Ev (fun k => spec_VarName.f k s) (vn s) := by
  have h := each (fun k j => spec_VarName.l0 k s j) s.size (letter s) false (by omega)
    (fun j hj hp => Ev.done fun k => by
      simp only [spec_VarName.l0]
      rw [if_pos (by omega), if_pos (by omega)]
      by_cases c : bt s (j : Int) < 97
      · rw [if_pos c]
      · rw [if_neg c, if_pos (by unfold letter at hp; omega)])
    (fun j r hj hp e => Ev.next e fun k => by
      simp only [spec_VarName.l0]
      rw [if_pos (by omega), if_pos (by omega), if_neg (by have := hp.1; omega), if_neg (by have := hp.2; omega)])
  unfold spec_VarName.f
  by_cases hp : ∀ i, i < s.size → letter s i
  · rw [vn_pos hp]
    refine h.1 _ hp (Ev.done (fun k => ?_))
    simp only [spec_VarName.l0]
    rw [if_neg (by omega), in_ok]
    rfl
  · rw [vn_neg hp]; exact h.2 hp

/-! ### a node -/
def okK (n : Int) (x : Int) : Prop := 0 ≤ x ∧ x ≤ n - 1
def kidn (op : Int) : Int := if op ≤ 3 then 0 else if op = 11 then 1 else 2
noncomputable def nb (op num : Int) (name : ByteArray) : Bool := (if op = 1 then decide (0 ≤ num ∧ num ≤ 99) else decide (num = 0)) && (if op = 2 then vn name else decide (name.toList = []))
/-- The node is right at its place. -/
def nodeOk (i : Int) (x : S32) : Prop := (1 ≤ x.f0 ∧ x.f0 ≤ 11) ∧ (x.f3.length : Int) = kidn x.f0 ∧ nb x.f0 x.f1 x.f2 = true ∧ ∀ y ∈ x.f3, okK i y

theorem impl_kids (op : Int) (n : Int) (h0 : 0 ≤ n) : ∃ c, impl_kidCount.f op = some c ∧ (n = c ↔ ((1 ≤ op ∧ op ≤ 11) ∧ n = kidn op)) := by
  unfold impl_kidCount.f kidn
  by_cases c1 : 1 ≤ op ∧ op ≤ 3
  · refine ⟨0, by rw [within_ok, decide_eq_true c1, Option.bind_some, if_pos rfl], ?_⟩
    rw [if_pos c1.2]; omega
  · by_cases c2 : 4 ≤ op ∧ op ≤ 10
    · refine ⟨2, by rw [within_ok, decide_eq_false c1, Option.bind_some, if_neg Bool.false_ne_true, within_ok, decide_eq_true c2, Option.bind_some, if_pos rfl], ?_⟩
      rw [if_neg (by omega), if_neg (by omega)]; omega
    · by_cases c3 : op = 11
      · refine ⟨1, by rw [within_ok, decide_eq_false c1, Option.bind_some, if_neg Bool.false_ne_true, within_ok, decide_eq_false c2, Option.bind_some, if_neg Bool.false_ne_true, if_pos c3], ?_⟩
        rw [if_neg (by omega), if_pos c3]; omega
      · refine ⟨-1, by rw [within_ok, decide_eq_false c1, Option.bind_some, if_neg Bool.false_ne_true, within_ok, decide_eq_false c2, Option.bind_some, if_neg Bool.false_ne_true, if_neg c3], ?_⟩
        omega
theorem spec_kids (op : Int) (h : 1 ≤ op ∧ op ≤ 11) : Ev (fun k => spec_l04Kids.f k op) (kidn op) := by
  unfold spec_l04Kids.f kidn
  by_cases c1 : op = 1
  · subst c1
    exact Ev.done (fun k => by simp [spec_l04Kids.j0])
  · by_cases c2 : op = 2
    · subst c2
      exact Ev.done (fun k => by simp [spec_l04Kids.j0])
    · by_cases c3 : op = 3
      · subst c3
        exact Ev.done (fun k => by simp [spec_l04Kids.j0])
      · rw [if_neg (show ¬ op ≤ 3 by omega)]
        refine Ev.done (fun k => ?_)
        have : (op == 3) = false := by simpa using c3
        rw [if_neg c1, if_neg c2, this]
        simp only [spec_l04Kids.j0]
        rw [if_neg Bool.false_ne_true]
        by_cases c4 : op = 11
        · rw [if_pos c4, if_pos c4]
        · rw [if_neg c4, if_neg c4]

theorem ahead (ks : List Int) (hk : ks.length ≤ 1048576) (n : Nat) (hn : n ≤ 1048576) :
    ((∀ x ∈ ks, okK n x) → Ev (fun k => impl_kidsAhead.f k ks (n : Int)) true) ∧ ((¬ ∀ x ∈ ks, okK n x) → Ev (fun k => impl_kidsAhead.f k ks (n : Int)) false) := by
  have hw : wrap64 ((n : Int) - 1) = (n : Int) - 1 := w64 (by omega) (by omega)
  have h := each (fun k j => impl_kidsAhead.l0 k (n : Int) ks (ks.length : Int) j) ks.length (fun j => okK n (ks.getD j 0)) false (by omega)
    (fun j hj hp => Ev.done fun k => by
      simp only [impl_kidsAhead.l0]
      rw [if_pos (by omega), if_pos (by omega), if_pos (by omega), rdInt, within_ok, hw, decide_eq_false (show ¬ (_ ∧ _) from hp), Option.bind_some, if_neg Bool.false_ne_true])
    (fun j r hj hp e => Ev.next e fun k => by
      simp only [impl_kidsAhead.l0]
      rw [if_pos (by omega), if_pos (by omega), if_pos (by omega), rdInt, within_ok, hw, decide_eq_true (show _ ∧ _ from hp), Option.bind_some, if_pos rfl])
  rw [← all_getD ks 0 (okK n)] at h
  unfold impl_kidsAhead.f
  refine ⟨fun hr => h.1 _ hr (Ev.done (fun k => ?_)), h.2⟩
  simp only [impl_kidsAhead.l0]
  rw [if_neg (by omega)]

theorem impl_j (op num : Int) (name : ByteArray) (ks : List Int) (hn : name.size ≤ 1048576) : Ev (fun k => impl_exNodeOk.j0 k false op num name ks) (nb op num name) := by
  obtain ⟨k0, h0⟩ := impl_name name hn
  refine ⟨k0 + 1, fun k hk => ?_⟩
  obtain ⟨k, rfl⟩ : ∃ q, k = q + 1 := ⟨k - 1, by omega⟩
  have hv : impl_VarName.f k name = some (vn name) := h0 k (by omega)
  simp only [impl_exNodeOk.j0, nb, within_ok, hv, Option.bind_some, Bool.false_eq_true, if_false]
  by_cases c1 : op = 1 <;> by_cases c2 : op = 2 <;> by_cases c3 : num = 0 <;> by_cases c4 : name.toList = [] <;> by_cases c5 : 0 ≤ num ∧ num ≤ 99 <;> simp [c1, c2, c3, c4, c5] <;> omega
theorem impl_node (i : Nat) (hi : i ≤ 1048576) (x : S32) (hn : x.f2.size ≤ 1048576) (hk : x.f3.length ≤ 1048576) :
    (nodeOk i x → Ev (fun k => impl_exNodeOk.f k x.f0 x.f1 x.f2 x.f3 (i : Int)) true) ∧ (¬ nodeOk i x → Ev (fun k => impl_exNodeOk.f k x.f0 x.f1 x.f2 x.f3 (i : Int)) false) := by
  obtain ⟨c, hc, hiff⟩ := impl_kids x.f0 (x.f3.length : Int) (by omega)
  have ej := impl_j x.f0 x.f1 x.f2 x.f3 hn
  obtain ⟨a1, a2⟩ := ahead x.f3 hk i hi
  unfold impl_exNodeOk.f
  have ebad : Ev (fun k => impl_exNodeOk.j0 k true x.f0 x.f1 x.f2 x.f3) false := Ev.done (fun k => by simp only [impl_exNodeOk.j0]; exact if_pos trivial)
  refine ⟨fun h => ?_, fun h => ?_⟩
  · obtain ⟨h1, h2, h3, h4⟩ := h
    simp only [hc, Option.bind_some]
    simp only [if_pos (hiff.2 ⟨h1, h2⟩)]
    refine Ev.bind (a1 h4) ?_
    rw [h3] at ej
    exact ej
  · simp only [hc, Option.bind_some]
    by_cases hh : (x.f3.length : Int) = c
    · simp only [if_pos hh]
      obtain ⟨h1, h2⟩ := hiff.1 hh
      by_cases h4 : ∀ y ∈ x.f3, okK (i : Int) y
      · refine Ev.bind (a1 h4) ?_
        have : nb x.f0 x.f1 x.f2 = false := by
          cases hb : nb x.f0 x.f1 x.f2 with
          | false => rfl
          | true => exact absurd ⟨h1, h2, hb, h4⟩ h
        rw [this] at ej
        exact ej
      · exact Ev.bind (a2 h4) ebad
    · simp only [if_neg hh]; exact ebad

/-- All is small. -/
def small (l : List S32) : Prop := l.length ≤ 1048576 ∧ ∀ x ∈ l, x.f2.size ≤ 1048576 ∧ x.f3.length ≤ 1048576
def right (l : List S32) : Prop := ∀ i : Nat, i < l.length → nodeOk (i : Int) (l.getD i z32)
def rightLen (l : List S32) : Bool := decide (1 ≤ (l.length : Int) ∧ (l.length : Int) ≤ 20)

theorem impl_expr (l : List S32) (hs : small l) : (right l → Ev (fun k => impl_ExprOk.f k l) (rightLen l)) ∧ (¬ right l → Ev (fun k => impl_ExprOk.f k l) false) := by
  have hl := hs.1
  have h := each (fun k j => impl_ExprOk.l0 k l (l.length : Int) j l) l.length (fun j => nodeOk (j : Int) (l.getD j z32)) false (by omega)
    (fun j hj hp => by
      have hx := hs.2 _ (getD_mem l z32 hj)
      refine Ev.step (fun k => by simp only [impl_ExprOk.l0]; rw [if_pos (by omega), if_pos (by omega), if_pos (by omega), rdX]) ?_
      refine Ev.bind ((impl_node j (by omega) _ hx.1 hx.2).2 hp) ?_
      exact Ev.just (fun k => if_neg Bool.false_ne_true))
    (fun j r hj hp e => by
      have hx := hs.2 _ (getD_mem l z32 hj)
      refine Ev.step (fun k => by simp only [impl_ExprOk.l0]; rw [if_pos (by omega), if_pos (by omega), if_pos (by omega), rdX]) ?_
      refine Ev.bind ((impl_node j (by omega) _ hx.1 hx.2).1 hp) ?_
      exact Ev.same e (fun k => if_pos rfl))
  unfold impl_ExprOk.f
  refine ⟨fun hr => h.1 _ hr (Ev.done (fun k => ?_)), h.2⟩
  simp only [impl_ExprOk.l0]
  rw [if_neg (by omega), within_ok]
  rfl

theorem spec_j1 (i : Int) (l : List S32) (op num : Int) (name : ByteArray) (ks : List Int) (hn : name.size ≤ 1048576) (r : Bool)
    (e : Ev (fun k => spec_ExprOk.j2 k i (!nb op num name) l op num name ks) r) : Ev (fun k => spec_ExprOk.j1 k i false l op num name ks) r := by
  obtain ⟨k0, h0⟩ := spec_name name hn
  obtain ⟨k1, h1⟩ := e
  refine ⟨k0 + k1 + 1, fun k hk => ?_⟩
  obtain ⟨k, rfl⟩ : ∃ q, k = q + 1 := ⟨k - 1, by omega⟩
  have hv : spec_VarName.f k name = some (vn name) := h0 k (by omega)
  have he : spec_ExprOk.j2 k i (!nb op num name) l op num name ks = some r := h1 k (by omega)
  simp only [spec_ExprOk.j1, in_ok, hv, Option.bind_some, Bool.false_eq_true, if_false]
  rw [← he]
  have hne : (name.toList != ([] : List UInt8)) = !decide (name.toList = []) := by
    by_cases c : name.toList = []
    · rw [c]; rfl
    · rw [decide_eq_false c, bne_iff_ne.2 c]; rfl
  rw [hne]
  unfold nb
  cases hvn : vn name <;> by_cases c1 : op = 1 <;> by_cases c2 : op = 2 <;> by_cases c3 : num = 0 <;> by_cases c4 : name.toList = [] <;> by_cases c5 : 0 ≤ num ∧ num ≤ 99 <;> simp [c1, c2, c3, c4, c5] <;> omega

theorem spec_ks (i : Nat) (hi : i ≤ 1048576) (l : List S32) (op num : Int) (name : ByteArray) (ks : List Int) (hk : ks.length ≤ 1048576) :
    (∀ r, (∀ x ∈ ks, okK i x) → Ev (fun k => spec_ExprOk.l0 k (wrap64 ((i : Int) + 1)) l) r → Ev (fun k => spec_ExprOk.l1 k i 0 l op num name ks) r) ∧ ((¬ ∀ x ∈ ks, okK i x) → Ev (fun k => spec_ExprOk.l1 k i 0 l op num name ks) false) := by
  have hw : wrap64 ((i : Int) - 1) = (i : Int) - 1 := w64 (by omega) (by omega)
  have h := each (fun k j => spec_ExprOk.l1 k i j l op num name ks) ks.length (fun j => okK i (ks.getD j 0)) false (by omega)
    (fun j hj hp => Ev.done fun k => by
      simp only [spec_ExprOk.l1]
      rw [if_pos (by omega), if_pos (by omega), rdInt, in_ok, hw, decide_eq_false (show ¬ (_ ∧ _) from hp), Option.bind_some, if_neg Bool.false_ne_true])
    (fun j r hj hp e => Ev.next e fun k => by
      simp only [spec_ExprOk.l1]
      rw [if_pos (by omega), if_pos (by omega), rdInt, in_ok, hw, decide_eq_true (show _ ∧ _ from hp), Option.bind_some, if_pos rfl])
  rw [← all_getD ks 0 (okK i)] at h
  refine ⟨fun r hr e => h.1 r hr (Ev.next e (fun k => ?_)), h.2⟩
  simp only [spec_ExprOk.l1]
  rw [if_neg (by omega)]

theorem spec_node (i : Nat) (hi : i ≤ 1048576) (l : List S32) (x : S32) (hn : x.f2.size ≤ 1048576) (hk : x.f3.length ≤ 1048576) (h0 : (1 ≤ x.f0 ∧ x.f0 ≤ 11)) (h1 : (x.f3.length : Int) = kidn x.f0) :
    (∀ r, nodeOk i x → Ev (fun k => spec_ExprOk.l0 k (wrap64 ((i : Int) + 1)) l) r → Ev (fun k => spec_ExprOk.j1 k i false l x.f0 x.f1 x.f2 x.f3) r) ∧ (¬ nodeOk i x → Ev (fun k => spec_ExprOk.j1 k i false l x.f0 x.f1 x.f2 x.f3) false) := by
  obtain ⟨a1, a2⟩ := spec_ks i hi l x.f0 x.f1 x.f2 x.f3 hk
  refine ⟨fun r h e => ?_, fun h => ?_⟩
  · refine spec_j1 i l _ _ _ _ hn r ?_
    rw [h.2.2.1]
    refine Ev.next (a1 r h.2.2.2 e) (fun k => ?_)
    simp only [spec_ExprOk.j2]
    exact if_neg Bool.false_ne_true
  · refine spec_j1 i l _ _ _ _ hn false ?_
    cases hb : nb x.f0 x.f1 x.f2 with
    | false => exact Ev.done (fun k => by simp only [spec_ExprOk.j2]; exact if_pos rfl)
    | true =>
      refine Ev.next (a2 (fun h4 => h ⟨h0, h1, hb, h4⟩)) (fun k => ?_)
      simp only [spec_ExprOk.j2]
      exact if_neg Bool.false_ne_true

theorem spec_l0 (l : List S32) (hs : small l) (i : Nat) (hi : i < l.length) :
    (∀ r, nodeOk i (l.getD i z32) → Ev (fun k => spec_ExprOk.l0 k (wrap64 ((i : Int) + 1)) l) r → Ev (fun k => spec_ExprOk.l0 k i l) r) ∧ (¬ nodeOk i (l.getD i z32) → Ev (fun k => spec_ExprOk.l0 k i l) false) := by
  have hl := hs.1
  have hx := hs.2 _ (getD_mem l z32 hi)
  have start : ∀ r, Ev (fun k => (spec_l01In.f ((l.getD i z32).f0) 1 11).bind fun t157 => (if t157 = true then ((spec_l04Kids.f k ((l.getD i z32).f0)).bind fun t158 => (spec_ExprOk.j1 k i ((((l.getD i z32).f3).length : Int) != t158) l ((l.getD i z32).f0) ((l.getD i z32).f1) ((l.getD i z32).f2) ((l.getD i z32).f3))) else (spec_ExprOk.j1 k i true l ((l.getD i z32).f0) ((l.getD i z32).f1) ((l.getD i z32).f2) ((l.getD i z32).f3)))) r → Ev (fun k => spec_ExprOk.l0 k i l) r := by
    intro r e
    refine Ev.step (fun k => ?_) e
    simp only [spec_ExprOk.l0]
    rw [if_pos (by omega), if_pos (by omega), rdX]
  have ebad : Ev (fun k => spec_ExprOk.j1 k i true l ((l.getD i z32).f0) ((l.getD i z32).f1) ((l.getD i z32).f2) ((l.getD i z32).f3)) false := Ev.done (fun k => by simp only [spec_ExprOk.j1]; exact if_pos trivial)
  refine ⟨fun r h e => start r ?_, fun h => start false ?_⟩
  · obtain ⟨h1, h2, h3, h4⟩ := id h
    simp only [in_ok, decide_eq_true h1, Option.bind_some, if_true]
    refine Ev.bind (spec_kids _ h1) ?_
    rw [h2, bne_self_eq_false]
    exact (spec_node i (by omega) l _ hx.1 hx.2 h1 h2).1 r h e
  · by_cases h1 : 1 ≤ (l.getD i z32).f0 ∧ (l.getD i z32).f0 ≤ 11
    · simp only [in_ok, decide_eq_true h1, Option.bind_some, if_true]
      refine Ev.bind (spec_kids _ h1) ?_
      by_cases h2 : (((l.getD i z32).f3).length : Int) = kidn (l.getD i z32).f0
      · rw [h2, bne_self_eq_false]
        exact (spec_node i (by omega) l _ hx.1 hx.2 h1 h2).2 h
      · have : ((((l.getD i z32).f3).length : Int) != kidn (l.getD i z32).f0) = true := by simpa using h2
        rw [this]
        exact ebad
    · simp only [in_ok, decide_eq_false h1, Option.bind_some, Bool.false_eq_true, if_false]
      exact ebad

theorem spec_expr (l : List S32) (hs : small l) : (right l → Ev (fun k => spec_ExprOk.f k l) (rightLen l)) ∧ (¬ right l → Ev (fun k => spec_ExprOk.f k l) false) := by
  have hl := hs.1
  have h := each (fun k j => spec_ExprOk.l0 k j l) l.length (fun j => nodeOk (j : Int) (l.getD j z32)) false (by omega)
    (fun j hj hp => (spec_l0 l hs j hj).2 hp) (fun j r hj hp e => (spec_l0 l hs j hj).1 r hp e)
  unfold spec_ExprOk.f
  refine ⟨fun hr => h.1 _ hr (Ev.done (fun k => ?_)), h.2⟩
  simp only [spec_ExprOk.l0]
  rw [if_neg (by omega), in_ok]
  rfl

/-! ### the text -/
def one (n : Int) : ByteArray := strOfNums [n % 256]
theorem one_size (n : Int) : (one n).size = 1 := rfl
theorem spec_var (n : Int) (h : 0 ≤ n ∧ n ≤ 127) : Ev (fun k => spec_l01Var.f k n) (one n) := by
  unfold spec_l01Var.f
  refine Ev.done (fun k => ?_)
  simp only [spec_l01Var.l0]
  rw [if_neg (by omega), if_pos (by simp)]
  rfl
theorem impl_var (n : Int) (h : 0 ≤ n ∧ n ≤ 127) : Ev (fun k => impl_VarText.f k n) (one n, true) := by
  unfold impl_VarText.f
  simp only [within_ok, decide_eq_true (show 0 ≤ n ∧ n ≤ 1000000000 by omega), Option.bind_some, if_true]
  refine Ev.done (fun k => ?_)
  simp only [impl_VarText.l0]
  rw [if_neg (by omega), if_pos (by simp)]
  rfl
theorem impl_num (n : Int) (h : 0 ≤ n ∧ n ≤ 127) : Ev (fun k => impl_numberText.f k n) (one n) := by
  unfold impl_numberText.f
  exact Ev.bind (impl_var n h) (Ev.now _)
theorem spec_short (s : ByteArray) (h : s.size ≤ 127) : Ev (fun k => spec_l16Short.f k s) (one (s.size : Int) ++ s) := by
  unfold spec_l16Short.f
  refine Ev.bind (spec_var _ (by omega)) (Ev.just (fun k => ?_))
  rw [one_size, if_pos (by omega)]
theorem impl_short (s : ByteArray) (h : s.size ≤ 127) : Ev (fun k => impl_shortOf.f k s) (one (s.size : Int) ++ s) := by
  unfold impl_shortOf.f impl_ShortText.f
  have hn : ¬ (s.size : Int) > 20000 := by omega
  simp only [if_neg hn]
  refine Ev.bind (a := (one (s.size : Int) ++ s, true)) (Ev.bind (impl_var (s.size : Int) (by omega)) (Ev.just (fun k => ?_))) (Ev.just (fun k => rfl))
  show (if (one (s.size : Int)).size + s.size ≤ 9223372036854775807 then _ else _) = _
  rw [one_size, if_pos (by omega)]

def headOf (x : S32) : ByteArray := (one x.f0 ++ one x.f1) ++ (one (x.f2.size : Int) ++ x.f2)
def kid (s : ByteArray) (y : Int) : ByteArray := s ++ one y
def node (s : ByteArray) (x : S32) : ByteArray := x.f3.foldl kid (s ++ headOf x)
theorem kids_size : ∀ (ks : List Int) (s : ByteArray), (ks.foldl kid s).size = s.size + ks.length
  | [], s => rfl
  | y :: ks, s => by rw [List.foldl_cons, kids_size ks, kid, ByteArray.size_append, one_size, List.length_cons]; omega
theorem empty_size {s : ByteArray} (h : s.toList = []) : s.size = 0 := by
  rw [toList_eq] at h
  have : s.data.size = 0 := by rw [← Array.length_toList, h]; rfl
  exact this
theorem node_lim {i : Int} {x : S32} (h : nodeOk i x) : x.f2.size ≤ 4 ∧ (0 ≤ x.f1 ∧ x.f1 ≤ 127) ∧ x.f3.length ≤ 2 := by
  obtain ⟨h1, h2, h3, h4⟩ := h
  refine ⟨?_, ?_, ?_⟩
  · unfold nb at h3
    rw [Bool.and_eq_true] at h3
    by_cases c : x.f0 = 2
    · rw [if_pos c] at h3; exact vn_size h3.2
    · rw [if_neg c] at h3
      have := empty_size (of_decide_eq_true h3.2)
      omega
  · unfold nb at h3
    rw [Bool.and_eq_true] at h3
    by_cases c : x.f0 = 1
    · rw [if_pos c] at h3
      have := of_decide_eq_true h3.1
      omega
    · rw [if_neg c] at h3
      have := of_decide_eq_true h3.1
      omega
  · unfold kidn at h2
    by_cases c : x.f0 ≤ 3
    · rw [if_pos c] at h2; omega
    · rw [if_neg c] at h2
      by_cases c2 : x.f0 = 11
      · rw [if_pos c2] at h2; omega
      · rw [if_neg c2] at h2; omega
theorem head_size (x : S32) : (headOf x).size = 3 + x.f2.size := by
  unfold headOf
  simp only [ByteArray.size_append, one_size]
  omega

theorem spec_kidsText (s : ByteArray) (hs : s.size ≤ 1000) (i : Int) (l : List S32) (op num : Int) (name : ByteArray) (ks : List Int) (hk : ks.length ≤ 2) (r : ByteArray × Bool)
    (e : Ev (fun k => spec_ExprText.l1 k (ks.foldl kid s) i (ks.length : Int) l op num name ks) r) : Ev (fun k => spec_ExprText.l1 k s i 0 l op num name ks) r := by
  refine run (fun k s j => spec_ExprText.l1 k s i j l op num name ks) ks 0 (by omega) kid (fun j s => s.size ≤ 1000 + j) (fun j s r hj hm hc => ⟨by rw [kid, ByteArray.size_append, one_size]; omega, fun e => ?_⟩) s r (by omega) e
  refine Ev.next e (fun k => ?_)
  have h1 : s.size + (strOfNums [ks.getD j 0 % 256]).size ≤ 9223372036854775807 := by
    have : (strOfNums [ks.getD j 0 % 256]).size = 1 := rfl
    omega
  simp only [spec_ExprText.l1]
  rw [if_pos (by omega), if_pos (by omega), rdInt, Option.bind_some, if_pos h1]
  rfl
theorem impl_kidsText (s : ByteArray) (hs : s.size ≤ 1000) (l : List S32) (n i : Int) (ks : List Int) (hk : ks.length ≤ 2) (r : ByteArray × Bool)
    (e : Ev (fun k => impl_ExprText.l1 k (ks.foldl kid s) l n i ks (ks.length : Int) (ks.length : Int)) r) : Ev (fun k => impl_ExprText.l1 k s l n i ks (ks.length : Int) 0) r := by
  refine run (fun k s j => impl_ExprText.l1 k s l n i ks (ks.length : Int) j) ks 0 (by omega) kid (fun j s => s.size ≤ 1000 + j) (fun j s r hj hm hc => ⟨by rw [kid, ByteArray.size_append, one_size]; omega, fun e => ?_⟩) s r (by omega) e
  refine Ev.next e (fun k => ?_)
  have h1 : s.size + (strOfNums [ks.getD j 0 % 256]).size ≤ 9223372036854775807 := by
    have : (strOfNums [ks.getD j 0 % 256]).size = 1 := rfl
    omega
  simp only [impl_ExprText.l1, impl_byteText.f]
  rw [if_pos (by omega), if_pos (by omega), if_pos (by omega), rdInt, Option.bind_some, if_pos h1]
  rfl

theorem spec_text (l : List S32) (hr : right l) (hl : l.length ≤ 20) (r : ByteArray × Bool) :
    Ev (fun k => spec_ExprText.l0 k (one (l.length : Int)) 0 l) (l.foldl node (one (l.length : Int)), true) := by
  refine run (fun k s j => spec_ExprText.l0 k s j l) l z32 (by omega) node (fun j s => s.size ≤ 1 + 9 * j) (fun j s r hj hm hc => ?_) (one (l.length : Int)) _ (by rw [one_size]; omega) (Ev.done (fun k => ?_))
  · obtain ⟨n1, n2, n3⟩ := node_lim (hr j hj)
    have hd := head_size (l.getD j z32)
    have hsz : (s ++ headOf (l.getD j z32)).size ≤ 1000 := by rw [ByteArray.size_append]; omega
    refine ⟨by rw [node, kids_size, ByteArray.size_append]; omega, fun e => ?_⟩
    have e2 : Ev (fun k => spec_ExprText.l1 k (s ++ headOf (l.getD j z32)) j 0 l (l.getD j z32).f0 (l.getD j z32).f1 (l.getD j z32).f2 (l.getD j z32).f3) r := by
      refine spec_kidsText _ hsz j l _ _ _ _ n3 r (Ev.next e (fun k => ?_))
      simp only [spec_ExprText.l1]
      rw [if_neg (by omega)]
      rfl
    have h1 : s.size + (strOfNums [(l.getD j z32).f0 % 256]).size ≤ 9223372036854775807 := by
      have : (strOfNums [(l.getD j z32).f0 % 256]).size = 1 := rfl
      omega
    refine Ev.step (fun k => by simp only [spec_ExprText.l0]; rw [if_pos (by omega), if_pos (by omega), rdX, Option.bind_some, if_pos h1]) ?_
    refine Ev.bind (spec_var _ n2) ?_
    have h2 : (s ++ strOfNums [(l.getD j z32).f0 % 256]).size + (one (l.getD j z32).f1).size ≤ 9223372036854775807 := by
      have : (strOfNums [(l.getD j z32).f0 % 256]).size = 1 := rfl
      rw [ByteArray.size_append, one_size]
      omega
    simp only [if_pos h2]
    refine Ev.bind (spec_short _ (by omega)) ?_
    have h3 : ((s ++ strOfNums [(l.getD j z32).f0 % 256]) ++ one (l.getD j z32).f1).size + (one ((l.getD j z32).f2.size : Int) ++ (l.getD j z32).f2).size ≤ 9223372036854775807 := by
      have : (strOfNums [(l.getD j z32).f0 % 256]).size = 1 := rfl
      rw [ByteArray.size_append, ByteArray.size_append, ByteArray.size_append, one_size, one_size]
      omega
    simp only [if_pos h3]
    have h4 : ((s ++ strOfNums [(l.getD j z32).f0 % 256]) ++ one (l.getD j z32).f1) ++ (one ((l.getD j z32).f2.size : Int) ++ (l.getD j z32).f2) = s ++ headOf (l.getD j z32) := by
      unfold headOf one
      simp only [ByteArray.append_assoc]
    rw [h4]
    exact e2
  · simp only [spec_ExprText.l0]
    rw [if_neg (by omega)]

theorem impl_text (l : List S32) (hr : right l) (hl : l.length ≤ 20) (r : ByteArray × Bool) :
    Ev (fun k => impl_ExprText.l0 k (one (l.length : Int)) l (l.length : Int) 0) (l.foldl node (one (l.length : Int)), true) := by
  refine run (fun k s j => impl_ExprText.l0 k s l (l.length : Int) j) l z32 (by omega) node (fun j s => s.size ≤ 1 + 9 * j) (fun j s r hj hm hc => ?_) (one (l.length : Int)) _ (by rw [one_size]; omega) (Ev.done (fun k => ?_))
  · obtain ⟨n1, n2, n3⟩ := node_lim (hr j hj)
    have hd := head_size (l.getD j z32)
    have hsz : (s ++ headOf (l.getD j z32)).size ≤ 1000 := by rw [ByteArray.size_append]; omega
    refine ⟨by rw [node, kids_size, ByteArray.size_append]; omega, fun e => ?_⟩
    have e2 : Ev (fun k => impl_ExprText.l1 k (s ++ headOf (l.getD j z32)) l (l.length : Int) j (l.getD j z32).f3 ((l.getD j z32).f3.length : Int) 0) r := by
      refine impl_kidsText _ hsz l _ j _ n3 r (Ev.next e (fun k => ?_))
      simp only [impl_ExprText.l1]
      rw [if_neg (by omega)]
      rfl
    refine Ev.step (fun k => by simp only [impl_ExprText.l0, impl_byteText.f]; rw [if_pos (by omega), if_pos (by omega), if_pos (by omega), rdX, Option.bind_some]) ?_
    refine Ev.bind (impl_num _ n2) ?_
    have h1 : (strOfNums [(l.getD j z32).f0 % 256]).size + (one (l.getD j z32).f1).size ≤ 9223372036854775807 := by
      have : (strOfNums [(l.getD j z32).f0 % 256]).size = 1 := rfl
      rw [one_size]
      omega
    simp only [if_pos h1]
    refine Ev.bind (impl_short _ (by omega)) ?_
    have h2 : (strOfNums [(l.getD j z32).f0 % 256] ++ one (l.getD j z32).f1).size + (one ((l.getD j z32).f2.size : Int) ++ (l.getD j z32).f2).size ≤ 9223372036854775807 := by
      have : (strOfNums [(l.getD j z32).f0 % 256]).size = 1 := rfl
      rw [ByteArray.size_append, ByteArray.size_append, one_size, one_size]
      omega
    simp only [if_pos h2]
    have h3 : s.size + ((strOfNums [(l.getD j z32).f0 % 256] ++ one (l.getD j z32).f1) ++ (one ((l.getD j z32).f2.size : Int) ++ (l.getD j z32).f2)).size ≤ 9223372036854775807 := by
      have : (strOfNums [(l.getD j z32).f0 % 256]).size = 1 := rfl
      rw [ByteArray.size_append, ByteArray.size_append, ByteArray.size_append, one_size, one_size]
      omega
    simp only [if_pos h3]
    exact e2
  · simp only [impl_ExprText.l0]
    rw [if_neg (by omega)]

theorem same {l : List S32} (hs : small l) : ∃ r, Ev (fun k => spec_ExprText.f k l) r ∧ Ev (fun k => impl_ExprText.f k l) r := by
  unfold spec_ExprText.f impl_ExprText.f
  by_cases hr : right l
  · have e1 := (spec_expr l hs).1 hr
    have e2 := (impl_expr l hs).1 hr
    cases hb : rightLen l with
    | true =>
      rw [hb] at e1 e2
      have hl : l.length ≤ 20 := by
        have := of_decide_eq_true hb
        omega
      refine ⟨(l.foldl node (one (l.length : Int)), true), Ev.bind e1 ?_, Ev.bind e2 ?_⟩
      · simp only [if_true]
        exact Ev.bind (spec_var _ (by omega)) (spec_text l hr hl (one 0, true))
      · simp only [if_true]
        exact Ev.bind (impl_num _ (by omega)) (impl_text l hr hl (one 0, true))
    | false =>
      rw [hb] at e1 e2
      exact ⟨_, Ev.bind e1 (Ev.just (fun k => if_neg Bool.false_ne_true)), Ev.bind e2 (Ev.just (fun k => if_neg Bool.false_ne_true))⟩
  · exact ⟨_, Ev.bind ((spec_expr l hs).2 hr) (Ev.just (fun k => if_neg Bool.false_ne_true)), Ev.bind ((impl_expr l hs).2 hr) (Ev.just (fun k => if_neg Bool.false_ne_true))⟩
end Go.Proofs.Ytlkbdoejeomlmaa.MFnExprTexts
