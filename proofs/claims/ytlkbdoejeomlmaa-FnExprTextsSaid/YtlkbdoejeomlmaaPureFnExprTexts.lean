/- FnExprTexts: for every code the law's call returns true (the text of a drawn expression is what the document tells; expressions of one text are the same). No condition. -/
import Derived.Test.YtlkbdoejeomlmaaMFnExprTexts
namespace Go.Proofs.Ytlkbdoejeomlmaa.Pure
open Go.RowKit Go.Proofs.Ytlkbdoejeomlmaa.PFnExprTexts Go.Proofs.Ytlkbdoejeomlmaa.MFnExprTexts Go.Proofs.YtlkbdoejeomlmaaPl Go.Proofs.YtlkbdoejeomlmaaLp Go.Proofs.YtlkbdoejeomlmaaW.PrintWords Go.Proofs.YtlkbdoejeomlmaaW.PrintLast

theorem and255 (n : Int) : Go.bits .and .i64 n 255 = n % 256 := by
  have h255 : (BitVec.ofInt 64 255).toNat = 2 ^ 8 - 1 := by decide
  have key : (BitVec.ofInt 64 n &&& BitVec.ofInt 64 255).toNat = (n % ((2 ^ 64 : Nat) : Int)).toNat % 2 ^ 8 := by
    rw [BitVec.toNat_and, BitVec.toNat_ofInt, h255, Nat.and_two_pow_sub_one_eq_mod]
  show IntKind.i64.wrap ((BitVec.ofInt 64 n &&& BitVec.ofInt 64 255).toNat : Nat) = n % 256
  rw [key, IntKind.wrap_i64]
  omega


/-- A cursor over a code that is not too long. -/
structure Cur (b : List Int) (i : Int) : Prop where
  lo : 0 ≤ i
  hi : i ≤ b.length
  sm : b.length ≤ 1048576

theorem byte_ok {b : List Int} {i : Int} (h : Int) (c : Cur b i) : ∃ r i' h', spec_l01Byte.f b i h = some (r, i', h') ∧ 0 ≤ r ∧ r ≤ 255 ∧ Cur b i' := by
  unfold spec_l01Byte.f
  have := c.lo; have := c.hi; have := c.sm
  by_cases h1 : i < (b.length : Int)
  · rw [if_pos h1, if_pos c.lo]
    simp only [and255]
    refine ⟨_, _, _, rfl, by omega, by omega, ?_, ?_, c.sm⟩
    · rw [w64 (by omega) (by omega)]; omega
    · rw [w64 (by omega) (by omega)]; omega
  · rw [if_neg h1]
    simp only [and255]
    exact ⟨_, _, _, rfl, by omega, by omega, c⟩

theorem below_ok {b : List Int} {i : Int} (h : Int) (n : Int) (hn : 0 < n) (c : Cur b i) : ∃ r i' h', spec_l01Below.f b i h n = some (r, i', h') ∧ 0 ≤ r ∧ r < n ∧ Cur b i' := by
  unfold spec_l01Below.f
  rw [if_neg (by omega)]
  by_cases h1 : n ≤ 256
  · rw [if_pos h1]
    obtain ⟨r, i', h', e, r0, r1, c'⟩ := byte_ok h c
    rw [e]
    simp only [Option.bind_some]
    rw [if_neg (by omega)]
    exact ⟨_, _, _, rfl, Int.tmod_nonneg _ r0, Int.tmod_lt_of_pos _ hn, c'⟩
  · rw [if_neg h1]
    obtain ⟨r, i', h', e, r0, r1, c'⟩ := byte_ok h c
    rw [e]
    simp only [Option.bind_some]
    obtain ⟨s, i2, h2, e2, s0, s1, c2⟩ := byte_ok h' c'
    rw [e2]
    simp only [Option.bind_some]
    obtain ⟨t, i3, h3, e3, t0, t1, c3⟩ := byte_ok h2 c2
    rw [e3]
    simp only [Option.bind_some]
    obtain ⟨u, i4, h4, e4, u0, u1, c4⟩ := byte_ok h3 c3
    rw [e4]
    simp only [Option.bind_some]
    rw [if_neg (by omega)]
    have w1 : wrap64 (r * 16777216) = r * 16777216 := w64 (by omega) (by omega)
    have w2 : wrap64 (s * 65536) = s * 65536 := w64 (by omega) (by omega)
    have w3 : wrap64 (t * 256) = t * 256 := w64 (by omega) (by omega)
    rw [w1, w2, w3, w64 (x := r * 16777216 + s * 65536) (by omega) (by omega), w64 (x := r * 16777216 + s * 65536 + t * 256) (by omega) (by omega), w64 (x := r * 16777216 + s * 65536 + t * 256 + u) (by omega) (by omega)]
    exact ⟨_, _, _, rfl, Int.tmod_nonneg _ (by omega), Int.tmod_lt_of_pos _ hn, c4⟩

theorem new_loop (b : List Int) (_hb : b.length ≤ 1048576) (d : Nat) : ∀ (h i : Int), 0 ≤ i → (b.length : Int) - i ≤ d → ∃ h', Ev (fun k => spec_l01New.l0 k b h i) (b, 0, h') := by
  induction d with
  | zero =>
    intro h i h0 hd
    exact ⟨h, Ev.step (f := fun _ => some (b, 0, h)) (fun k => by simp only [spec_l01New.l0]; rw [if_neg (by omega)]) (Ev.now _)⟩
  | succ d ih =>
    intro h i h0 hd
    by_cases h1 : i < (b.length : Int)
    · by_cases h2 : i < 4000
      · obtain ⟨h', e⟩ := ih (Go.bits .and .i64 (wrap64 ((wrap64 ((wrap64 (h * 131)) + (wrap64 (rd b i)))) + 7)) 1073741823) (wrap64 (i + 1)) (by rw [w64 (by omega) (by omega)]; omega) (by rw [w64 (by omega) (by omega)]; omega)
        exact ⟨h', Ev.step (fun k => by simp only [spec_l01New.l0]; rw [if_pos h1, if_pos h2, if_pos h0]) e⟩
      · exact ⟨h, Ev.step (f := fun _ => some (b, 0, h)) (fun k => by simp only [spec_l01New.l0]; rw [if_pos h1, if_neg h2]) (Ev.now _)⟩
    · exact ⟨h, Ev.step (f := fun _ => some (b, 0, h)) (fun k => by simp only [spec_l01New.l0]; rw [if_neg h1]) (Ev.now _)⟩

theorem new_ok (b : List Int) (hb : b.length ≤ 1048576) : ∃ h', Ev (fun k => spec_l01New.f k b) (b, 0, h') ∧ Cur b 0 := by
  obtain ⟨h', e⟩ := new_loop b hb b.length (wrap64 (34601 + (b.length : Int))) 0 (by omega) (by omega)
  exact ⟨h', e, ⟨by omega, by omega, hb⟩⟩

set_option linter.unusedVariables false
/-! ### what is drawn -/
theorem pickInt_ok {b : List Int} {c : Int} (h : Int) (L : List Int) (hL : 0 < L.length) (hl : L.length ≤ 100) (hc : Cur b c) : ∃ x c' h', spec_l01PickInt.f b c h L = some (x, c', h') ∧ x ∈ L ∧ Cur b c' := by
  obtain ⟨r, c1, h1, e1, r0, r1, hc1⟩ := below_ok h (L.length : Int) (by omega) hc
  refine ⟨rd L r, c1, h1, ?_, ?_, hc1⟩
  · unfold spec_l01PickInt.f
    rw [e1, Option.bind_some]
    dsimp only
    rw [if_pos r0, if_pos r1]
  · unfold rd
    exact getD_mem L 0 (by omega)
theorem pick_ok {b : List Int} {c : Int} (h : Int) (L : List ByteArray) (hL : 0 < L.length) (hl : L.length ≤ 100) (hc : Cur b c) : ∃ x c' h', spec_l01Pick.f b c h L = some (x, c', h') ∧ x ∈ L ∧ Cur b c' := by
  obtain ⟨r, c1, h1, e1, r0, r1, hc1⟩ := below_ok h (L.length : Int) (by omega) hc
  refine ⟨rdOf ByteArray.empty L r, c1, h1, ?_, ?_, hc1⟩
  · unfold spec_l01Pick.f
    rw [e1, Option.bind_some]
    dsimp only
    rw [if_pos r0, if_pos r1]
  · unfold rdOf
    exact getD_mem L ByteArray.empty (by omega)
theorem once_ok {b : List Int} {c : Int} (h : Int) (n : Int) (hn : 0 < n) (hc : Cur b c) : ∃ q c' h', spec_l01Once.f b c h n = some (q, c', h') ∧ Cur b c' := by
  obtain ⟨r, c1, h1, e1, r0, r1, hc1⟩ := below_ok h n hn hc
  refine ⟨r == 0, c1, h1, ?_, hc1⟩
  unfold spec_l01Once.f
  rw [e1, Option.bind_some]

def names3 : List ByteArray := [(⟨#[97]⟩ : ByteArray), (⟨#[98]⟩ : ByteArray), (⟨#[110]⟩ : ByteArray)]
theorem names_vn : ∀ s ∈ names3, vn s = true := by
  have key : ∀ c : UInt8, 97 ≤ (c.toNat : Int) → (c.toNat : Int) ≤ 122 → vn (⟨#[c]⟩ : ByteArray) = true := by
    intro c h0 h1
    have hs : (⟨#[c]⟩ : ByteArray).size = 1 := rfl
    rw [vn_pos (fun i hi => ?_)]
    · rw [hs]; rfl
    · have : i = 0 := by omega
      subst this
      exact ⟨h0, h1⟩
  intro s hs
  unfold names3 at hs
  simp only [List.mem_cons, List.not_mem_nil, or_false] at hs
  rcases hs with rfl | rfl | rfl
  · exact key 97 (by decide) (by decide)
  · exact key 98 (by decide) (by decide)
  · exact key 110 (by decide) (by decide)

theorem right_nil : right [] := fun i hi => absurd hi (Nat.not_lt_zero _)
theorem right_snoc {l : List S32} (h : right l) {x : S32} (hx : nodeOk (l.length : Int) x) : right (l ++ [x]) := by
  intro i hi
  rw [List.length_append, List.length_singleton] at hi
  by_cases hlt : i < l.length
  · rw [List.getD_eq_getElem?_getD, List.getElem?_append_left hlt, ← List.getD_eq_getElem?_getD]
    exact h i hlt
  · have : i = l.length := by omega
    subst this
    rw [List.getD_eq_getElem?_getD, List.getElem?_append_right (Nat.le_refl _), Nat.sub_self]
    exact hx

/-- What the end of a node comes to. -/
theorem e0_ok (c h : Int) (out : List S32) (x : S32) (hl : out.length ≤ 1000) : Ev (fun k => spec_l04Made.e0 k c h out x) ((out.length : Int), c, h, out ++ [x]) := by
  refine Ev.done (fun k => ?_)
  simp only [spec_l04Made.e0]
  rw [if_pos (by omega), List.length_append, List.length_singleton, w64 (by omega) (by omega)]
  congr 2
  omega

def mx : Nat → Nat
  | 0 => 1
  | d + 1 => 1 + 2 * mx d
/-- A drawn part of an expression. -/
def Drawn (b : List Int) (out : List S32) (m : Nat) (g : Nat → Option (Int × Int × Int × List S32)) : Prop :=
  ∃ out' c' h', Ev g ((out'.length : Int) - 1, c', h', out') ∧ right out' ∧ out.length < out'.length ∧ out'.length ≤ out.length + m ∧ Cur b c'

theorem drawn_one {b : List Int} {c h : Int} {out : List S32} {x : S32} {m : Nat} (hm : 1 ≤ m) (hl : out.length ≤ 1000) (hr : right out) (hx : nodeOk (out.length : Int) x) (hc : Cur b c) : Drawn b out m (fun k => spec_l04Made.e0 k c h out x) := by
  refine ⟨out ++ [x], c, h, ?_, right_snoc hr hx, by simp, by simp; omega, hc⟩
  have := e0_ok c h out x hl
  rw [List.length_append, List.length_singleton]
  rw [show ((out.length + 1 : Nat) : Int) - 1 = (out.length : Int) from by omega]
  exact this

theorem kids_ok (b : List Int) (D : Nat) (op : Int) (hop : 4 ≤ op ∧ op ≤ 11) (hD : D + 1 ≤ 2)
    (IH : ∀ (out : List S32) (c h : Int), Cur b c → right out → out.length + D * 10 ≤ 90 → Drawn b out (mx D) (fun k => spec_l04Made.f k b c h out names3 (D : Int))) (d : Nat) :
    ∀ (i : Nat) (acc : List Int) (out : List S32) (c h : Int), (i : Int) + d = kidn op → acc.length = i → (∀ y ∈ acc, 0 ≤ y ∧ y ≤ (out.length : Int) - 1) → Cur b c → right out → out.length + d * mx D + D * 10 ≤ 90 →
      Drawn b out (d * mx D + 1) (fun k => spec_l04Made.l0 k b c h out names3 ((D + 1 : Nat) : Int) op (i : Int) acc) := by
  have hmx : mx D ≤ 3 := by
    match D, hD with
    | 0, _ => decide
    | 1, _ => decide
  have hk2 : kidn op ≤ 2 := by unfold kidn; split <;> (try split) <;> omega
  have ek := spec_kids op ⟨by omega, by omega⟩
  have hwd : wrap64 (((D + 1 : Nat) : Int) - 1) = (D : Int) := by rw [w64 (by omega) (by omega)]; omega
  induction d with
  | zero =>
    intro i acc out c h hi ha hy hc hr hl
    have e := drawn_one (b := b) (c := c) (h := h) (out := out) (x := (⟨op, 0, (⟨#[]⟩ : ByteArray), acc⟩ : S32)) (m := 0 * mx D + 1) (by omega) (by omega) hr ⟨⟨by show 1 ≤ op; omega, by show op ≤ 11; omega⟩, by show (acc.length : Int) = kidn op; omega, by
      show nb op 0 (⟨#[]⟩ : ByteArray) = true
      unfold nb
      rw [if_neg (by omega), if_neg (by omega)]
      have : (⟨#[]⟩ : ByteArray).toList = [] := by rw [toList_eq]
      rw [this]
      rfl, fun y hy' => hy y hy'⟩ hc
    obtain ⟨o, c', h', e1, rest⟩ := e
    refine ⟨o, c', h', Ev.step (f := fun k => (spec_l04Kids.f k op).bind fun n => (if (i : Int) < n then ((spec_l04Made.f k b c h out names3 (wrap64 (((D + 1 : Nat) : Int) - 1))).bind fun r => (if acc.length < 17592186044416 then (spec_l04Made.l0 k b r.2.1 r.2.2.1 r.2.2.2 names3 ((D + 1 : Nat) : Int) op (wrap64 ((i : Int) + 1)) (acc ++ [r.1])) else (none))) else (spec_l04Made.e0 k c h out ⟨op, 0, (⟨#[]⟩ : ByteArray), acc⟩))) (fun k => by simp only [spec_l04Made.l0]) (Ev.bind ek ?_), rest⟩
    simp only [if_neg (show ¬ (i : Int) < kidn op by omega)]
    exact e1
  | succ d ih =>
    intro i acc out c h hi ha hy hc hr hl
    have ha2 : acc.length < 17592186044416 := by
      have h2 : (acc.length : Int) ≤ 2 := by rw [ha]; have h3 : (i : Int) + ((d + 1 : Nat) : Int) = kidn op := hi; clear hl hmx; omega
      exact Nat.lt_of_le_of_lt (Int.ofNat_le.1 h2) (by decide)
    have hdm : (d + 1) * mx D = d * mx D + mx D := Nat.succ_mul d (mx D)
    obtain ⟨o1, c1, h1, e1, r1, l1, l2, hc1⟩ := IH out c h hc hr (by omega)
    have hwi : wrap64 ((i : Int) + 1) = ((i + 1 : Nat) : Int) := w64 (by omega) (by omega)
    obtain ⟨o2, c2, h2, e2, r2, m1, m2, hc2⟩ := ih (i + 1) (acc ++ [(o1.length : Int) - 1]) o1 c1 h1 (by omega) (by rw [List.length_append, List.length_singleton, ha]) (fun y hy' => by
      rcases List.mem_append.1 hy' with h3 | h3
      · have := hy y h3; omega
      · rw [List.mem_singleton.1 h3]; omega) hc1 r1 (by omega)
    refine ⟨o2, c2, h2, Ev.step (f := fun k => (spec_l04Kids.f k op).bind fun n => (if (i : Int) < n then ((spec_l04Made.f k b c h out names3 (wrap64 (((D + 1 : Nat) : Int) - 1))).bind fun r => (if acc.length < 17592186044416 then (spec_l04Made.l0 k b r.2.1 r.2.2.1 r.2.2.2 names3 ((D + 1 : Nat) : Int) op (wrap64 ((i : Int) + 1)) (acc ++ [r.1])) else (none))) else (spec_l04Made.e0 k c h out ⟨op, 0, (⟨#[]⟩ : ByteArray), acc⟩))) (fun k => by simp only [spec_l04Made.l0]) (Ev.bind ek ?_), r2, by omega, by omega, hc2⟩
    simp only [if_pos (show (i : Int) < kidn op by omega), hwd]
    refine Ev.bind e1 ?_
    simp only [if_pos ha2, hwi]
    exact e2

theorem j0_ok (b : List Int) (deep : Int) (m : Nat) (hm : 1 ≤ m) (op : Int) (out : List S32) (c h : Int) (hc : Cur b c) (hr : right out) (hl : out.length ≤ 100)
    (hop : (op = 1 ∨ op = 2 ∨ op = 3) ∨ (4 ≤ op ∧ op ≤ 11 ∧ Drawn b out m (fun k => spec_l04Made.l0 k b c h out names3 deep op 0 []))) : Drawn b out m (fun k => spec_l04Made.j0 k b c h out names3 deep op) := by
  have lift : ∀ g : Nat → Option (Int × Int × Int × List S32), (∀ k, spec_l04Made.j0 (k + 1) b c h out names3 deep op = g k) → Drawn b out m g → Drawn b out m (fun k => spec_l04Made.j0 k b c h out names3 deep op) := fun g hg d => by
    obtain ⟨o, c', h', e, rest⟩ := d
    exact ⟨o, c', h', Ev.step hg e, rest⟩
  have he : (⟨#[]⟩ : ByteArray).toList = [] := by rw [toList_eq]
  rcases hop with (rfl | rfl | rfl) | ⟨h4, h11, d⟩
  · obtain ⟨x, c1, h1, e1, hx, hc1⟩ := pickInt_ok h [0, 1, 2, 3, 9, 99] (by decide) (by decide) hc
    refine lift (fun k => spec_l04Made.e0 k c1 h1 out ⟨1, x, (⟨#[]⟩ : ByteArray), []⟩) (fun k => by simp only [spec_l04Made.j0]; rw [if_pos trivial, e1, Option.bind_some]) (drawn_one hm (by omega) hr ⟨⟨by show (1 : Int) ≤ 1; omega, by show (1 : Int) ≤ 11; omega⟩, rfl, ?_, fun y hy => absurd hy (by simp)⟩ hc1)
    show nb 1 x (⟨#[]⟩ : ByteArray) = true
    have hx2 : 0 ≤ x ∧ x ≤ 99 := by
      simp only [List.mem_cons, List.not_mem_nil, or_false] at hx
      omega
    unfold nb
    rw [if_pos rfl, if_neg (by omega), he, decide_eq_true hx2]
    rfl
  · obtain ⟨r, c1, h1, e1, r0, r1, hc1⟩ := below_ok h (names3.length : Int) (by decide) hc
    refine lift (fun k => spec_l04Made.e0 k c1 h1 out ⟨2, 0, rdOf ByteArray.empty names3 r, []⟩) (fun k => by simp only [spec_l04Made.j0]; rw [if_neg (by omega), if_pos trivial, if_pos (by decide), e1, Option.bind_some]; dsimp only; rw [if_pos r0, if_pos r1]) (drawn_one hm (by omega) hr ⟨⟨by show (1 : Int) ≤ 2; omega, by show (2 : Int) ≤ 11; omega⟩, rfl, ?_, fun y hy => absurd hy (by simp)⟩ hc1)
    show nb 2 0 (rdOf ByteArray.empty names3 r) = true
    have hv := names_vn (rdOf ByteArray.empty names3 r) (by unfold rdOf; exact getD_mem names3 ByteArray.empty (by omega))
    unfold nb
    rw [if_neg (by omega), if_pos rfl, hv]
    rfl
  · refine lift (fun k => spec_l04Made.e0 k c h out ⟨3, 0, (⟨#[]⟩ : ByteArray), []⟩) (fun k => by simp only [spec_l04Made.j0]; rw [if_neg (by omega), if_neg (by omega), if_pos trivial]) (drawn_one hm (by omega) hr ⟨⟨by show (1 : Int) ≤ 3; omega, by show (3 : Int) ≤ 11; omega⟩, rfl, ?_, fun y hy => absurd hy (by simp)⟩ hc)
    show nb 3 0 (⟨#[]⟩ : ByteArray) = true
    unfold nb
    rw [if_neg (by omega), if_neg (by omega), he]
    rfl
  · exact lift _ (fun k => by simp only [spec_l04Made.j0]; rw [if_neg (by omega), if_neg (by omega), if_neg (by omega)]) d

theorem first_op {x : Int} (h : x ∈ ([1, 1, 2, 2, 3] : List Int)) : x = 1 ∨ x = 2 ∨ x = 3 := by
  simp only [List.mem_cons, List.not_mem_nil, or_false] at h
  omega
theorem made_ok (b : List Int) : ∀ D : Nat, D ≤ 2 → ∀ (out : List S32) (c h : Int), Cur b c → right out → out.length + D * 10 ≤ 90 → Drawn b out (mx D) (fun k => spec_l04Made.f k b c h out names3 (D : Int)) := by
  intro D
  induction D with
  | zero =>
    intro _ out c h hc hr hl
    obtain ⟨x, c1, h1, e1, hx, hc1⟩ := pickInt_ok h [1, 1, 2, 2, 3] (by decide) (by decide) hc
    obtain ⟨o, c', h', e, rest⟩ := j0_ok b ((0 : Nat) : Int) (mx 0) (by decide) x out c1 h1 hc1 hr (by omega) (.inl (first_op hx))
    refine ⟨o, c', h', Ev.step (fun k => ?_) e, rest⟩
    simp only [spec_l04Made.f]
    rw [e1, Option.bind_some, if_neg (by omega)]
  | succ D ih =>
    intro hD out c h hc hr hl
    have hmx : mx D ≤ 3 := by
      match D, hD with
      | 0, _ => decide
      | 1, _ => decide
    have hm1 : mx (D + 1) = 1 + 2 * mx D := rfl
    obtain ⟨x, c1, h1, e1, hx, hc1⟩ := pickInt_ok h [1, 1, 2, 2, 3] (by decide) (by decide) hc
    obtain ⟨q, c2, h2, e2, hc2⟩ := once_ok h1 3 (by omega) hc1
    by_cases hq : q = true
    · obtain ⟨o, c', h', e, rest⟩ := j0_ok b ((D + 1 : Nat) : Int) (mx (D + 1)) (by omega) x out c2 h2 hc2 hr (by omega) (.inl (first_op hx))
      refine ⟨o, c', h', Ev.step (fun k => ?_) e, rest⟩
      simp only [spec_l04Made.f]
      rw [e1, Option.bind_some]
      dsimp only
      rw [if_pos (by omega), e2, Option.bind_some]
      dsimp only
      rw [if_pos hq]
    · obtain ⟨y, c3, h3, e3, hy, hc3⟩ := pickInt_ok h2 [4, 4, 5, 6, 7, 8, 9, 10, 11] (by decide) (by decide) hc2
      have hy2 : 4 ≤ y ∧ y ≤ 11 := by
        simp only [List.mem_cons, List.not_mem_nil, or_false] at hy
        omega
      have hk : kidn y = 1 ∨ kidn y = 2 := by
        unfold kidn
        rw [if_neg (by omega)]
        by_cases h11 : y = 11
        · rw [if_pos h11]; exact .inl rfl
        · rw [if_neg h11]; exact .inr rfl
      obtain ⟨n, hn, hn2⟩ : ∃ n : Nat, (n : Int) = kidn y ∧ n ≤ 2 := by
        rcases hk with h | h
        · exact ⟨1, by omega, by omega⟩
        · exact ⟨2, by omega, by omega⟩
      have hnm : n * mx D ≤ 2 * mx D := Nat.mul_le_mul_right _ hn2
      obtain ⟨o0, c0, h0, e0, r0, l0, l1, hc0⟩ := kids_ok b D y hy2 hD (fun out c h hc hr hl => by
        obtain ⟨o, c', h', e, rest⟩ := ih (by omega) out c h hc hr (by omega)
        exact ⟨o, c', h', e, rest⟩) n 0 [] out c3 h3 (by omega) rfl (fun y hy => absurd hy (by simp)) hc3 hr (by omega)
      obtain ⟨o, c', h', e, rest⟩ := j0_ok b ((D + 1 : Nat) : Int) (mx (D + 1)) (by omega) y out c3 h3 hc3 hr (by omega) (.inr ⟨hy2.1, hy2.2, o0, c0, h0, e0, r0, l0, by omega, hc0⟩)
      refine ⟨o, c', h', Ev.step (fun k => ?_) e, rest⟩
      simp only [spec_l04Made.f]
      rw [e1, Option.bind_some]
      dsimp only
      rw [if_pos (by omega), e2, Option.bind_some]
      dsimp only
      rw [if_neg hq, e3, Option.bind_some]

theorem expr_ok (b : List Int) (c h : Int) (hc : Cur b c) : ∃ l c' h', Ev (fun k => spec_l04Expr.f k b c h names3 2) (l, c', h') ∧ right l ∧ 1 ≤ l.length ∧ l.length ≤ 7 ∧ Cur b c' := by
  obtain ⟨o, c', h', e, r, l1, l2, hc'⟩ := made_ok b 2 (Nat.le_refl _) [] c h hc right_nil (by decide)
  have hm : mx 2 = 7 := rfl
  rw [hm] at l2
  simp only [List.length_nil] at l1 l2
  refine ⟨o, c', h', ?_, r, by omega, by omega, hc'⟩
  unfold spec_l04Expr.f
  exact Ev.bind e (Ev.now _)
theorem small_of {l : List S32} (hr : right l) (hl : l.length ≤ 20) : small l := by
  refine ⟨by omega, fun x hx => ?_⟩
  obtain ⟨i, hi, rfl⟩ := List.mem_iff_getElem.1 hx
  have e : l.getD i z32 = l[i] := by rw [List.getD_eq_getElem?_getD, List.getElem?_eq_getElem hi, Option.getD_some]
  have h := node_lim (hr i hi)
  rw [e] at h
  exact ⟨by omega, by omega⟩
theorem small_set {l : List S32} (hs : small l) (i : Nat) {x : S32} (h1 : x.f2.size ≤ 1048576) (h2 : x.f3.length ≤ 1048576) : small (l.set i x) := by
  refine ⟨by rw [List.length_set]; exact hs.1, fun y hy => ?_⟩
  rcases List.mem_or_eq_of_mem_set hy with h | rfl
  · exact hs.2 y h
  · exact ⟨h1, h2⟩

theorem any_ok (b : List Int) (c h : Int) (hc : Cur b c) : ∃ l c' h', Ev (fun k => spec_l04Any.f k b c h) (l, c', h') ∧ small l := by
  obtain ⟨q, c1, h1, e1, q0, q1, hc1⟩ := below_ok h 16 (by omega) hc
  obtain ⟨l, c2, h2, e2, hr, l1, l7, hc2⟩ := expr_ok b c1 h1 hc1
  have hs := small_of hr (by omega)
  obtain ⟨a, c3, h3, e3, a0, a1, hc3⟩ := below_ok h2 (l.length : Int) (by omega) hc2
  have hx : small l ∧ (rd_T32 l a).f2.size ≤ 1048576 ∧ (rd_T32 l a).f3.length ≤ 1048576 := by
    refine ⟨hs, hs.2 _ ?_⟩
    unfold rd_T32
    exact getD_mem l z32 (by omega)
  have nl : ([] : List S32) ++ l = l := rfl
  have start : ∀ r, Ev (fun k => (if q = 0 then ((spec_l01Below.f b c3 h3 13).bind fun x => (if 0 ≤ a then (if a < (l.length : Int) then (some ((l.set (a : Int).toNat (⟨x.1, (rd_T32 l a).f1, (rd_T32 l a).f2, (rd_T32 l a).f3⟩ : S32)), x.2.1, x.2.2)) else (none)) else (none))) else (if q = 1 then ((spec_l01PickInt.f b c3 h3 (([(-1), 5, 99, 100] : List Int))).bind fun x => (if 0 ≤ a then (if a < (l.length : Int) then (some ((l.set (a : Int).toNat (⟨(rd_T32 l a).f0, x.1, (rd_T32 l a).f2, (rd_T32 l a).f3⟩ : S32)), x.2.1, x.2.2)) else (none)) else (none))) else (if q = 2 then ((spec_l01PickInt.f b c3 h3 (([(-1), 0, a] : List Int))).bind fun x => (if 0 ≤ a then (if a < (l.length : Int) then (some ((l.set (a : Int).toNat (⟨(rd_T32 l a).f0, (rd_T32 l a).f1, (rd_T32 l a).f2, (([x.1] : List Int))⟩ : S32)), x.2.1, x.2.2)) else (none)) else (none))) else (if q = 3 then ((spec_l01Pick.f b c3 h3 (([(⟨#[]⟩ : ByteArray), (⟨#[97]⟩ : ByteArray), (⟨#[65]⟩ : ByteArray)] : List ByteArray))).bind fun x => (if 0 ≤ a then (if a < (l.length : Int) then (some ((l.set (a : Int).toNat (⟨(rd_T32 l a).f0, (rd_T32 l a).f1, x.1, (rd_T32 l a).f3⟩ : S32)), x.2.1, x.2.2)) else (none)) else (none))) else (if q = 4 then (some ((([] : List (S32))), c3, h3)) else (some (l, c3, h3)))))) : Option (List S32 × Int × Int))) r → Ev (fun k => spec_l04Any.f k b c h) r := fun r e => by
    unfold spec_l04Any.f
    simp only [e1, Option.bind_some]
    refine Ev.bind e2 (Ev.same e (fun k => ?_))
    dsimp only
    rw [if_pos (by simp only [List.length_nil]; omega), nl, e3, Option.bind_some]
  by_cases q00 : q = 0
  · obtain ⟨x, c4, h4, e4, x0, x1, hc4⟩ := below_ok h3 13 (by omega) hc3
    exact ⟨l.set (a : Int).toNat (⟨x, (rd_T32 l a).f1, (rd_T32 l a).f2, (rd_T32 l a).f3⟩ : S32), c4, h4, start _ (Ev.just (fun k => by rw [if_pos q00, e4, Option.bind_some, if_pos a0, if_pos a1])), small_set hs _ hx.2.1 hx.2.2⟩
  · by_cases q11 : q = 1
    · obtain ⟨x, c4, h4, e4, hx4, hc4⟩ := pickInt_ok h3 [(-1), 5, 99, 100] (by decide) (by decide) hc3
      exact ⟨l.set (a : Int).toNat (⟨(rd_T32 l a).f0, x, (rd_T32 l a).f2, (rd_T32 l a).f3⟩ : S32), c4, h4, start _ (Ev.just (fun k => by rw [if_neg q00, if_pos q11, e4, Option.bind_some, if_pos a0, if_pos a1])), small_set hs _ hx.2.1 hx.2.2⟩
    · by_cases q22 : q = 2
      · obtain ⟨x, c4, h4, e4, hx4, hc4⟩ := pickInt_ok h3 [(-1), 0, a] (by simp) (by simp) hc3
        exact ⟨l.set (a : Int).toNat (⟨(rd_T32 l a).f0, (rd_T32 l a).f1, (rd_T32 l a).f2, [x]⟩ : S32), c4, h4, start _ (Ev.just (fun k => by rw [if_neg q00, if_neg q11, if_pos q22, e4, Option.bind_some, if_pos a0, if_pos a1])), small_set hs _ hx.2.1 (by show [x].length ≤ 1048576; simp)⟩
      · by_cases q33 : q = 3
        · obtain ⟨x, c4, h4, e4, hx4, hc4⟩ := pick_ok h3 [(⟨#[]⟩ : ByteArray), (⟨#[97]⟩ : ByteArray), (⟨#[65]⟩ : ByteArray)] (by decide) (by decide) hc3
          have hxs : x.size ≤ 1048576 := by
            have : ∀ y ∈ [(⟨#[]⟩ : ByteArray), (⟨#[97]⟩ : ByteArray), (⟨#[65]⟩ : ByteArray)], y.size ≤ 1 := by decide
            have := this x hx4
            omega
          exact ⟨l.set (a : Int).toNat (⟨(rd_T32 l a).f0, (rd_T32 l a).f1, x, (rd_T32 l a).f3⟩ : S32), c4, h4, start _ (Ev.just (fun k => by rw [if_neg q00, if_neg q11, if_neg q22, if_pos q33, e4, Option.bind_some, if_pos a0, if_pos a1])), small_set hs _ hxs hx.2.2⟩
        · by_cases q44 : q = 4
          · exact ⟨[], c3, h3, start _ (Ev.just (fun k => by rw [if_neg q00, if_neg q11, if_neg q22, if_neg q33, if_pos q44])), by decide, fun x hx => absurd hx (by simp)⟩
          · exact ⟨l, c3, h3, start _ (Ev.just (fun k => by rw [if_neg q00, if_neg q11, if_neg q22, if_neg q33, if_neg q44])), hs⟩

/-! ### the texts -/
theorem same2 {l : List S32} (hs : small l) : ∃ r, Ev (fun k => spec_ExprText.f k l) r ∧ Ev (fun k => impl_ExprText.f k l) r ∧ Ev (fun k => spec_ExprOk.f k l) r.2 := by
  unfold spec_ExprText.f impl_ExprText.f
  by_cases hr : right l
  · have e1 := (spec_expr l hs).1 hr
    have e2 := (impl_expr l hs).1 hr
    cases hb : rightLen l with
    | true =>
      rw [hb] at e1 e2
      have hl : l.length ≤ 20 := by
        have := of_decide_eq_true hb
        omega
      refine ⟨(l.foldl node (one (l.length : Int)), true), Ev.bind e1 ?_, Ev.bind e2 ?_, e1⟩
      · simp only [if_true]
        exact Ev.bind (spec_var _ (by omega)) (spec_text l hr hl (one 0, true))
      · simp only [if_true]
        exact Ev.bind (impl_num _ (by omega)) (impl_text l hr hl (one 0, true))
    | false =>
      rw [hb] at e1 e2
      exact ⟨((⟨#[]⟩ : ByteArray), false), Ev.bind e1 (Ev.just (fun k => if_neg Bool.false_ne_true)), Ev.bind e2 (Ev.just (fun k => if_neg Bool.false_ne_true)), e1⟩
  · exact ⟨((⟨#[]⟩ : ByteArray), false), Ev.bind ((spec_expr l hs).2 hr) (Ev.just (fun k => if_neg Bool.false_ne_true)), Ev.bind ((impl_expr l hs).2 hr) (Ev.just (fun k => if_neg Bool.false_ne_true)), (spec_expr l hs).2 hr⟩
theorem text_of {l : List S32} (hr : right l) (h1 : 1 ≤ l.length) (h2 : l.length ≤ 20) : Ev (fun k => impl_ExprText.f k l) (l.foldl node (one (l.length : Int)), true) := by
  unfold impl_ExprText.f
  have e2 := (impl_expr l (small_of hr h2)).1 hr
  have hb : rightLen l = true := decide_eq_true (by omega)
  rw [hb] at e2
  refine Ev.bind e2 ?_
  simp only [if_true]
  exact Ev.bind (impl_num _ (by omega)) (impl_text l hr h2 (one 0, true))
theorem node_size (s : ByteArray) (x : S32) : (node s x).size = s.size + (3 + x.f2.size + x.f3.length) := by
  unfold node
  rw [kids_size, ByteArray.size_append, head_size]
  omega
def tot (l : List S32) : Nat := l.foldl (fun n x => n + (3 + x.f2.size + x.f3.length)) 0
theorem fold_size (l : List S32) : ∀ (s : ByteArray) (n : Nat), s.size = n → (l.foldl node s).size = l.foldl (fun n x => n + (3 + x.f2.size + x.f3.length)) n := by
  induction l with
  | nil => intro s n h; exact h
  | cons x r ih =>
    intro s n h
    rw [List.foldl_cons, List.foldl_cons]
    exact ih _ _ (by rw [node_size, h])
theorem fold_le (l : List S32) : ∀ n : Nat, n ≤ l.foldl (fun n x => n + (3 + x.f2.size + x.f3.length)) n := by
  induction l with
  | nil => intro n; exact Nat.le_refl _
  | cons x r ih => intro n; rw [List.foldl_cons]; have := ih (n + (3 + x.f2.size + x.f3.length)); omega
theorem fold_four (l : List S32) (h : 1 ≤ l.length) : 4 ≤ l.foldl (fun n x => n + (3 + x.f2.size + x.f3.length)) 1 := by
  match l, h with
  | x :: r, _ =>
    rw [List.foldl_cons]
    have := fold_le r (1 + (3 + x.f2.size + x.f3.length))
    omega

theorem FnExprTexts : laws_FnExprTexts.Pure := by
  intro l0 _ _ _
  refine Ev.rounds ?_
  unfold laws_FnExprTexts.f laws_big.f
  simp only [Option.bind_some]
  by_cases hb : (l0.length : Int) > 1048576
  · simp only [hb, decide_true, if_true]
    exact Ev.now _
  · simp only [hb, decide_false]
    have hb' : l0.length ≤ 1048576 := by omega
    simp only [Bool.false_eq_true, if_false]
    obtain ⟨h0, e0, c0⟩ := new_ok l0 hb'
    obtain ⟨e, ce, he, ee, hse⟩ := any_ok l0 0 h0 c0
    obtain ⟨x, cx, hx, ex, hr, x1, x7, _⟩ := expr_ok l0 0 h0 c0
    have ed : Ev (fun k => spec_DrawExprText.f k l0) e := by
      unfold spec_DrawExprText.f
      exact Ev.bind e0 (Ev.bind ee (Ev.now _))
    have exd : Ev (fun k => spec_DrawExpr.f k l0) x := by
      unfold spec_DrawExpr.f
      exact Ev.bind e0 (Ev.bind ex (Ev.now _))
    obtain ⟨r, rs, ri, ro⟩ := same2 hse
    have tx := text_of hr x1 (by omega)
    have hy : right (x ++ [(⟨3, 0, (⟨#[]⟩ : ByteArray), ([] : List Int)⟩ : S32)]) := right_snoc hr ⟨⟨by show (1 : Int) ≤ 3; omega, by show (3 : Int) ≤ 11; omega⟩, rfl, by
      show nb 3 0 (⟨#[]⟩ : ByteArray) = true
      have he : (⟨#[]⟩ : ByteArray).toList = [] := by rw [toList_eq]
      unfold nb
      rw [if_neg (by omega), if_neg (by omega), he]
      rfl, fun y hy => absurd hy (by simp)⟩
    have hyl : (x ++ [(⟨3, 0, (⟨#[]⟩ : ByteArray), ([] : List Int)⟩ : S32)]).length = x.length + 1 := by rw [List.length_append, List.length_singleton]
    have ty := text_of hy (by omega) (by omega)
    have sx := fold_size x (one (x.length : Int)) 1 (one_size _)
    have s4 := fold_four x x1
    obtain ⟨v, tv, sv⟩ : ∃ v : ByteArray, Ev (fun k => impl_ExprText.f k (x ++ [(⟨3, 0, (⟨#[]⟩ : ByteArray), ([] : List Int)⟩ : S32)])) (v, true) ∧ v.size = x.foldl (fun n x => n + (3 + x.f2.size + x.f3.length)) 1 + 3 := by
      refine ⟨_, ty, ?_⟩
      rw [fold_size _ _ 1 (one_size _), List.foldl_append, List.foldl_cons, List.foldl_nil]
      rfl
    generalize x.foldl (fun n x => n + (3 + x.f2.size + x.f3.length)) 1 = n at sx sv s4
    generalize x.foldl node (one (x.length : Int)) = u at tx sx
    have hne : ¬ v.toList = u.toList := fun h => by
      have hl : ∀ s : ByteArray, s.toList.length = s.size := fun s => by rw [toList_eq]; exact Array.length_toList
      have := hl v
      rw [h, hl u] at this
      omega
    have nl : ([] : List S32) ++ x = x := rfl
    refine Ev.bind ed (Ev.bind ri (Ev.bind rs (Ev.bind exd (Ev.bind tx ?_))))
    simp only [nl, List.length_nil, beq_self_eq_true, if_true, if_pos (show 0 + x.length < 2513169434916 by omega), if_pos (show x.length < 2513169434916 by omega)]
    refine Ev.bind tv (Ev.bind ro ?_)
    simp only [beq_self_eq_true, if_true, if_neg hne]
    exact Ev.just (fun k => by rw [decide_eq_true (show (u.size : Int) > 3 by omega)])
end Go.Proofs.Ytlkbdoejeomlmaa.Pure
