/- What the program's Climb comes to, told by a derivation; a text of a derivation comes to itself again, and in parentheses to the same. -/
import Derived.Test.YtlkbdoejeomlmaaOFnParentheses
import Derived.Test.YtlkbdoejeomlmaaLp
namespace Go.Proofs.Ytlkbdoejeomlmaa.MFnParentheses
open Go.RowKit Go.Proofs.Ytlkbdoejeomlmaa.PFnParentheses Go.Proofs.Ytlkbdoejeomlmaa.OFnParentheses Go.Proofs.YtlkbdoejeomlmaaPl Go.Proofs.YtlkbdoejeomlmaaW.PrintWords Go.Proofs.YtlkbdoejeomlmaaW.PrintLast Go.Proofs.YtlkbdoejeomlmaaW.PrintMore
set_option linter.unusedVariables false

theorem Ev.later {α : Type} {g : Nat → Option α} {r : α} (h : Ev g r) : Ev (fun k => g (k + 1)) r := by
  obtain ⟨K, hK⟩ := h
  exact ⟨K, fun k hk => hK (k + 1) (by omega)⟩

/-! ### the text from a place on -/
def suf (t : ByteArray) (a : Nat) : ByteArray := t.extract a t.size
theorem suf_size (t : ByteArray) (a : Nat) : (suf t a).size = t.size - a := by
  unfold suf
  rw [ByteArray.size_extract]
  omega
theorem suf_zero (t : ByteArray) : suf t 0 = t := ByteArray.extract_zero_size
theorem suf_next (t : ByteArray) (a : Nat) (ha : a < t.size) : (suf t a).extract 1 (suf t a).size = suf t (a + 1) := by
  rw [suf_size]
  unfold suf
  rw [ByteArray.extract_extract]
  rw [show min (a + (t.size - a)) t.size = t.size from by omega]
theorem suf_head (t : ByteArray) (a : Nat) (ha : a < t.size) : (suf t a).extract 0 1 = t.extract a (a + 1) := by
  unfold suf
  rw [ByteArray.extract_extract]
  rw [show min (a + 1) t.size = a + 1 from by omega]
  rfl
theorem suf_bt (t : ByteArray) (a : Nat) (ha : a < t.size) : bt (suf t a) 0 = bt t (a : Int) := by
  have h1 : (0 : Int).toNat < (suf t a).size := by rw [suf_size]; show 0 < _; omega
  have h2 : ((a : Int)).toNat < t.size := by omega
  rw [← bt_at (suf t a) 0 h1, ← bt_at t (a : Int) h2]
  unfold suf at h1 ⊢
  rw [ByteArray.getElem_extract]
  congr 2
theorem size_toList (s : ByteArray) : s.toList.length = s.size := by rw [toList_eq]; exact Array.length_toList
theorem suf_nil (t : ByteArray) (a : Nat) (ha : a = t.size) : (suf t a).toList = ([] : List UInt8) := by
  have : (suf t a).toList.length = 0 := by rw [size_toList, suf_size]; omega
  exact List.length_eq_zero_iff.1 this
theorem suf_cons (t : ByteArray) (a : Nat) (ha : a < t.size) : ¬ (suf t a).toList = ([] : List UInt8) := fun h => by
  have : (suf t a).toList.length = 0 := by rw [h]; rfl
  rw [size_toList, suf_size] at this
  omega
theorem one_list (t : ByteArray) (a : Nat) (ha : a < t.size) : (t.extract a (a + 1)).toList = [t[a]] := by
  have hl : (t.extract a (a + 1)).toList.length = 1 := by rw [size_toList, ByteArray.size_extract]; omega
  obtain ⟨c, hc⟩ : ∃ c, (t.extract a (a + 1)).toList = [c] := by
    match h : (t.extract a (a + 1)).toList, hl with
    | [c], _ => exact ⟨c, rfl⟩
  rw [hc]
  have hs : 0 < (t.extract a (a + 1)).size := by rw [ByteArray.size_extract]; omega
  have h0 : (t.extract a (a + 1))[0] = t[a] := ByteArray.getElem_extract hs
  rw [← h0]
  rw [toList_eq] at hc
  have : (t.extract a (a + 1)).data.toList[0]? = some c := by rw [hc]; rfl
  rw [Array.getElem?_toList, Array.getElem?_eq_getElem (by exact hs)] at this
  exact congrArg (fun x => [x]) (Option.some.inj this).symm
theorem one_is (t : ByteArray) (a : Nat) (ha : a < t.size) (c : UInt8) : (t.extract a (a + 1)).toList = [c] ↔ bt t (a : Int) = (c.toNat : Int) := by
  have h2 : ((a : Int)).toNat < t.size := by omega
  rw [one_list t a ha, ← bt_at t (a : Int) h2]
  constructor
  · intro h
    have := List.cons.inj h
    rw [← this.1]
    rfl
  · intro h
    have h3 : (t[a]).toNat = c.toNat := by
      have : ((t[a]).toNat : Int) = (c.toNat : Int) := h
      omega
    rw [UInt8.toNat_inj.1 h3]

/-! ### the next operator -/
theorem hpre_one (t : ByteArray) (a : Nat) (ha : a ≤ t.size) (s : ByteArray) (hs : s.size = 1) : hpre (suf t a) s = (decide (a < t.size) && ((t.extract a (a + 1)).toList == s.toList)) := by
  unfold hpre strings_HasPrefix.f stringslite_HasPrefix.f
  by_cases h : a < t.size
  · rw [if_pos (by rw [suf_size]; omega), if_pos (by omega), if_pos (by rw [suf_size]; omega)]
    have e : (((s.size : Nat) : Int) : Int).toNat = 1 := by omega
    rw [e, suf_head t a h]
    simp [h]
  · rw [if_neg (by rw [suf_size]; omega)]
    simp [h]

variable (ops : List S128) (hn : ops.length ≤ 1048576) (hs : ∀ o ∈ ops, o.f0.size = 1) (t : ByteArray) (ht : t.size ≤ 1000)
def nx (a : Nat) : Nat := nextIx (suf t a) ops
def lev (a : Nat) : Int := (rd_T128 ops (nx ops t a : Int)).f1
def sgn (a : Nat) : ByteArray := (rd_T128 ops (nx ops t a : Int)).f0
def deep (a : Nat) : Int := if (rd_T128 ops (nx ops t a : Int)).f2 = true then lev ops t a else wrap64 (lev ops t a + 1)
def put (s g u : ByteArray) : ByteArray := ((((⟨#[40]⟩ : ByteArray) ++ s) ++ g) ++ u) ++ (⟨#[41]⟩ : ByteArray)
theorem put_size (s g u : ByteArray) : (put s g u).size = 1 + s.size + g.size + u.size + 1 := by
  unfold put
  simp only [ByteArray.size_append]
  rfl
include hs in
theorem sgn_size (a : Nat) (h : nx ops t a < ops.length) : (sgn ops t a).size = 1 := by
  refine hs _ ?_
  rw [rdD]
  exact getD_mem ops z128 h
include hs in
theorem nx_lt (a : Nat) (ha : a ≤ t.size) (h : nx ops t a < ops.length) : a < t.size := by
  have h1 : ops.findIdx (fun o => hpre (suf t a) o.f0) < ops.length := h
  have h2 := List.findIdx_getElem (w := h1)
  rw [hpre_one t a ha _ (hs _ (List.getElem_mem h1))] at h2
  simp at h2
  exact h2.1

include hn in
theorem impl_next (a : Nat) : impl_climber_next.f ops (suf t a) false = some (if nx ops t a < ops.length then (sgn ops t a, lev ops t a, (rd_T128 ops (nx ops t a : Int)).f2, true, suf t a, false) else ((⟨#[]⟩ : ByteArray), 0, false, false, suf t a, false)) := by
  unfold impl_climber_next.f
  rw [if_pos hn]
  by_cases h : nx ops t a < ops.length
  · rw [if_pos h, if_pos (show nextIx (suf t a) ops < ops.length from h)]; rfl
  · rw [if_neg h, if_neg (show ¬ nextIx (suf t a) ops < ops.length from h)]

theorem isFigure_ok (x : Int) (h0 : 0 ≤ x) (h1 : x ≤ 255) : impl_isFigure.f x = some (decide (48 ≤ x ∧ x ≤ 57)) := by
  unfold impl_isFigure.f
  rw [within_ok, w64 (by omega) (by omega)]
  rfl

/-- Whether the byte at a is a figure. -/
def fig (a : Nat) : Prop := 48 ≤ bt t (a : Int) ∧ bt t (a : Int) ≤ 57

/-- What is read: 0: a figure or what is in parentheses; 1: what operators of a level at least bind; 2: the same, behind a first part s. -/
inductive Dv : Nat → Int → ByteArray → Nat → ByteArray → Nat → Prop
  | fig (l : Int) (s : ByteArray) (a : Nat) : a < t.size → fig t a → Dv 0 l s a (t.extract a (a + 1)) (a + 1)
  | par (l : Int) (s : ByteArray) (a : Nat) (o : ByteArray) (b : Nat) : a < t.size → bt t (a : Int) = 40 → Dv 1 0 s (a + 1) o b → b < t.size → bt t (b : Int) = 41 → Dv 0 l s a o (b + 1)
  | climb (l : Int) (s : ByteArray) (a : Nat) (o : ByteArray) (b : Nat) (p : ByteArray) (c : Nat) : Dv 0 l s a o b → Dv 2 l o b p c → Dv 1 l s a p c
  | stop (l : Int) (s : ByteArray) (a : Nat) : a ≤ t.size → (nx ops t a < ops.length → lev ops t a < l) → Dv 2 l s a s a
  | bind (l : Int) (s : ByteArray) (a : Nat) (o : ByteArray) (b : Nat) (p : ByteArray) (c : Nat) : a < t.size → nx ops t a < ops.length → ¬ lev ops t a < l → Dv 1 (deep ops t a) s (a + 1) o b → Dv 2 l (put s (sgn ops t a) o) b p c → Dv 2 l s a p c

include hs in
theorem bounds {k : Nat} {l : Int} {s o : ByteArray} {a b : Nat} (d : Dv ops t k l s a o b) : b ≤ t.size ∧ ((k = 0 ∨ k = 1) → a < b ∧ o.size ≤ 3 * (b - a)) ∧ (k = 2 → a ≤ b ∧ o.size ≤ s.size + 3 * (b - a)) := by
  induction d with
  | fig l s a h _ => exact ⟨by omega, fun _ => ⟨by omega, by rw [ByteArray.size_extract]; omega⟩, fun h => by omega⟩
  | par l s a o b h _ d hb _ ih =>
    have := ih.2.1 (.inr rfl)
    exact ⟨by omega, fun _ => ⟨by omega, by omega⟩, fun h => by omega⟩
  | climb l s a o b p c d1 d2 i1 i2 =>
    have h1 := i1.2.1 (.inl rfl)
    have h2 := i2.2.2 rfl
    exact ⟨i2.1, fun _ => ⟨by omega, by omega⟩, fun h => by omega⟩
  | stop l s a h _ => exact ⟨h, fun h => by omega, fun _ => ⟨Nat.le_refl _, by omega⟩⟩
  | bind l s a o b p c h hx _ d1 d2 i1 i2 =>
    have h1 := i1.2.1 (.inr rfl)
    have h2 := i2.2.2 rfl
    have h3 := put_size s (sgn ops t a) o
    have h4 := sgn_size ops hs t a hx
    exact ⟨i2.1, fun h => by omega, fun _ => ⟨by omega, by omega⟩⟩

/-! ### the steps of the program -/
theorem first_start (a : Nat) (hlt : a < t.size) (r : ByteArray × ByteArray × Bool) (e : Ev (fun k => impl_climber_first.j0 (impl_climber_climb.f k) k (if 48 ≤ bt t (a : Int) ∧ bt t (a : Int) ≤ 57 then false else (bt t (a : Int) != 40)) ops (suf t a) false) r) : Ev (fun k => impl_climber_first.f (impl_climber_climb.f k) k ops (suf t a) false) r := by
  obtain ⟨b0, b1⟩ := bt_range t (a : Int)
  refine Ev.same e (fun k => ?_)
  unfold impl_climber_first.f
  rw [if_neg Bool.false_ne_true, if_neg (suf_cons t a hlt), if_pos (by rw [suf_size]; omega), suf_bt t a hlt, isFigure_ok _ b0 b1, Option.bind_some]
  by_cases h : 48 ≤ bt t (a : Int) ∧ bt t (a : Int) ≤ 57
  · rw [if_pos h, if_pos (decide_eq_true h)]
  · rw [if_neg h, if_neg (by simpa using h)]
theorem is40 (a : Nat) (ha : a < t.size) : (t.extract a (a + 1)).toList = [40] ↔ bt t (a : Int) = 40 := one_is t a ha 40
theorem is41 (a : Nat) (ha : a < t.size) : (t.extract a (a + 1)).toList = [41] ↔ bt t (a : Int) = 41 := one_is t a ha 41
theorem first_par (a : Nat) (hlt : a < t.size) (hp : bt t (a : Int) = 40) (r : ByteArray × ByteArray × Bool) (e : Ev (fun k => (impl_climber_climb.f k ops (suf t (a + 1)) false 0).bind fun x => ((strings_HasPrefix.f x.2.1 (⟨#[41]⟩ : ByteArray)).bind fun q => (if q = true then (if 1 ≤ (x.2.1.size : Int) then (some (x.1, x.2.1.extract 1 x.2.1.size, x.2.2)) else (none)) else (some ((⟨#[]⟩ : ByteArray), x.2.1, true))))) r) :
    Ev (fun k => impl_climber_first.f (impl_climber_climb.f k) k ops (suf t a) false) r := by
  refine first_start ops t a hlt r ?_
  rw [if_neg (by omega), bne_eq_false_iff_eq.2 hp]
  refine Ev.step (fun k => ?_) (Ev.later e)
  simp only [impl_climber_first.j0]
  rw [if_neg Bool.false_ne_true, if_pos (by omega), if_pos (by rw [suf_size]; omega), suf_head t a hlt, if_pos ((is40 t a hlt).2 hp), suf_next t a hlt]
theorem close_ok (b : Nat) (hb : b ≤ t.size) : strings_HasPrefix.f (suf t b) (⟨#[41]⟩ : ByteArray) = some (decide (b < t.size) && ((t.extract b (b + 1)).toList == [41])) := by
  rw [hpre_eq, hpre_one t b hb _ rfl, show (⟨#[41]⟩ : ByteArray).toList = [41] from by rw [toList_eq]]
theorem climb_start (l : Int) (a : Nat) (r : ByteArray × ByteArray × Bool) (e : Ev (fun k => (impl_climber_first.f (impl_climber_climb.f k) k ops (suf t a) false).bind fun x => impl_climber_climb.l0 k l x.1 ops x.2.1 x.2.2) r) : Ev (fun k => impl_climber_climb.f k ops (suf t a) false l) r := Ev.step (fun k => by simp only [impl_climber_climb.f]) e
include hn in
theorem loop_stop (l : Int) (s : ByteArray) (a : Nat) (h : nx ops t a < ops.length → lev ops t a < l) : Ev (fun k => impl_climber_climb.l0 k l s ops (suf t a) false) (s, suf t a, false) := by
  by_cases hx : nx ops t a < ops.length
  · refine Ev.step (f := fun k => impl_climber_climb.j1 k l s true ops (suf t a) false (sgn ops t a) (lev ops t a) (rd_T128 ops (nx ops t a : Int)).f2) (fun k => ?_) (Ev.done (fun k => ?_))
    · simp only [impl_climber_climb.l0]
      rw [if_neg Bool.false_ne_true, impl_next ops hn t a, if_pos hx, Option.bind_some]
      dsimp only
      rw [if_pos rfl, decide_eq_true (h hx)]
    · simp only [impl_climber_climb.j1]
      rw [if_pos trivial]
  · refine Ev.step (f := fun k => impl_climber_climb.j1 k l s true ops (suf t a) false (⟨#[]⟩ : ByteArray) 0 false) (fun k => ?_) (Ev.done (fun k => ?_))
    · simp only [impl_climber_climb.l0]
      rw [if_neg Bool.false_ne_true, impl_next ops hn t a, if_neg hx, Option.bind_some]
      dsimp only
      rw [if_neg Bool.false_ne_true]
    · simp only [impl_climber_climb.j1]
      rw [if_pos trivial]
include hn in
theorem loop_bind (l : Int) (s : ByteArray) (a : Nat) (hlt : a < t.size) (hx : nx ops t a < ops.length) (hl : ¬ lev ops t a < l) (r : ByteArray × ByteArray × Bool) (e : Ev (fun k => (impl_climber_climb.f k ops (suf t (a + 1)) false (deep ops t a)).bind fun x => (if 1 + s.size ≤ 9223372036854775807 then (if ((⟨#[40]⟩ : ByteArray) ++ s).size + (sgn ops t a).size ≤ 9223372036854775807 then (if (((⟨#[40]⟩ : ByteArray) ++ s) ++ (sgn ops t a)).size + x.1.size ≤ 9223372036854775807 then (if ((((⟨#[40]⟩ : ByteArray) ++ s) ++ (sgn ops t a)) ++ x.1).size + 1 ≤ 9223372036854775807 then (impl_climber_climb.l0 k l (put s (sgn ops t a) x.1) ops x.2.1 x.2.2) else (none)) else (none)) else (none)) else (none))) r) :
    Ev (fun k => impl_climber_climb.l0 k l s ops (suf t a) false) r := by
  refine Ev.step (f := fun k => impl_climber_climb.j1 k l s false ops (suf t a) false (sgn ops t a) (lev ops t a) (rd_T128 ops (nx ops t a : Int)).f2) (fun k => ?_) (Ev.step (fun k => ?_) e)
  · simp only [impl_climber_climb.l0]
    rw [if_neg Bool.false_ne_true, impl_next ops hn t a, if_pos hx, Option.bind_some]
    dsimp only
    rw [if_pos rfl, decide_eq_false hl]
  · simp only [impl_climber_climb.j1]
    rw [if_neg Bool.false_ne_true, if_pos (by rw [suf_size]; omega), suf_next t a hlt]
    unfold deep put
    by_cases hr : (rd_T128 ops (nx ops t a : Int)).f2 = true
    · rw [if_pos hr, if_pos hr]
    · rw [if_neg hr, if_neg hr]
include hs in
theorem sizes (s u : ByteArray) (a : Nat) (hx : nx ops t a < ops.length) (h1 : s.size ≤ 100000) (h2 : u.size ≤ 100000) : (1 + s.size ≤ 9223372036854775807) ∧ (((⟨#[40]⟩ : ByteArray) ++ s).size + (sgn ops t a).size ≤ 9223372036854775807) ∧ ((((⟨#[40]⟩ : ByteArray) ++ s) ++ (sgn ops t a)).size + u.size ≤ 9223372036854775807) ∧ (((((⟨#[40]⟩ : ByteArray) ++ s) ++ (sgn ops t a)) ++ u).size + 1 ≤ 9223372036854775807) := by
  have h3 := sgn_size ops hs t a hx
  have h4 : (⟨#[40]⟩ : ByteArray).size = 1 := rfl
  simp only [ByteArray.size_append]
  omega

/-! ### a derivation is what the program does -/
include hn hs ht in
theorem does {k : Nat} {l : Int} {s o : ByteArray} {a b : Nat} (d : Dv ops t k l s a o b) :
    (k = 0 → Ev (fun k => impl_climber_first.f (impl_climber_climb.f k) k ops (suf t a) false) (o, suf t b, false)) ∧ (k = 1 → Ev (fun k => impl_climber_climb.f k ops (suf t a) false l) (o, suf t b, false)) ∧ (k = 2 → s.size + 3 * (t.size - a) ≤ 100000 → Ev (fun k => impl_climber_climb.l0 k l s ops (suf t a) false) (o, suf t b, false)) := by
  induction d with
  | fig l s a hlt hf =>
    refine ⟨fun _ => first_start ops t a hlt _ ?_, fun h => by omega, fun h => by omega⟩
    rw [if_pos (show 48 ≤ bt t (a : Int) ∧ bt t (a : Int) ≤ 57 from hf)]
    refine Ev.done (fun k => ?_)
    simp only [impl_climber_first.j0]
    have hf2 : 48 ≤ bt t (a : Int) := hf.1
    rw [if_neg Bool.false_ne_true, if_pos (by omega), if_pos (by rw [suf_size]; omega), suf_head t a hlt, if_neg (fun h => by have := (is40 t a hlt).1 h; omega), suf_next t a hlt]
  | par l s a o b hlt hp d hb hq ih =>
    refine ⟨fun _ => first_par ops t a hlt hp _ (Ev.bind (ih.2.1 rfl) (Ev.just (fun k => ?_))), fun h => by omega, fun h => by omega⟩
    dsimp only
    rw [close_ok t b (by omega), decide_eq_true hb, (is41 t b hb).2 hq]
    simp only [Bool.true_and, beq_self_eq_true, Option.bind_some, if_true]
    rw [if_pos (by rw [suf_size]; omega), suf_next t b hb]
  | climb l s a o b p c d1 d2 i1 i2 =>
    have h1 := (bounds ops hs t d1).2.1 (.inl rfl)
    exact ⟨fun h => by omega, fun _ => climb_start ops t l a _ (Ev.bind (i1.1 rfl) (i2.2.2 rfl (by have := (bounds ops hs t d1).1; omega))), fun h => by omega⟩
  | stop l s a h hl => exact ⟨fun h => by omega, fun h => by omega, fun _ _ => loop_stop ops hn t l s a hl⟩
  | bind l s a o b p c hlt hx hl d1 d2 i1 i2 =>
    have h1 := (bounds ops hs t d1).2.1 (.inr rfl)
    have h2 := (bounds ops hs t d1).1
    refine ⟨fun h => by omega, fun h => by omega, fun _ hsz => loop_bind ops hn t l s a hlt hx hl _ (Ev.bind (i1.2.1 rfl) ?_)⟩
    obtain ⟨z1, z2, z3, z4⟩ := sizes ops hs t s o a hx (by omega) (by omega)
    have h3 := put_size s (sgn ops t a) o
    have h4 := sgn_size ops hs t a hx
    refine Ev.same (i2.2.2 rfl (by omega)) (fun k => ?_)
    dsimp only
    rw [if_pos z1, if_pos z2, if_pos z3, if_pos z4]

/-! ### either a derivation, or a bad text -/
def Bad0 (a : Nat) : Prop := ∃ o s, Ev (fun k => impl_climber_first.f (impl_climber_climb.f k) k ops (suf t a) false) (o, s, true) ∧ o.size ≤ 3 * (t.size - a)
def Bad1 (l : Int) (a : Nat) : Prop := ∃ o s, Ev (fun k => impl_climber_climb.f k ops (suf t a) false l) (o, s, true) ∧ o.size ≤ 3 * (t.size - a)
def Bad2 (l : Int) (s : ByteArray) (a : Nat) : Prop := ∃ o u, Ev (fun k => impl_climber_climb.l0 k l s ops (suf t a) false) (o, u, true) ∧ o.size ≤ s.size + 3 * (t.size - a)
include hn hs ht in
theorem first_or (l : Int) (s : ByteArray) (a : Nat) (ha : a ≤ t.size) (IH : a + 1 ≤ t.size → (∃ o b, Dv ops t 1 0 s (a + 1) o b) ∨ Bad1 ops t 0 (a + 1)) : (∃ o b, Dv ops t 0 l s a o b) ∨ Bad0 ops t a := by
  by_cases hlt : a < t.size
  · by_cases hf : fig t a
    · exact .inl ⟨_, _, Dv.fig l s a hlt hf⟩
    · by_cases hp : bt t (a : Int) = 40
      · rcases IH (by omega) with ⟨o, b, d⟩ | ⟨o, u, e, hu⟩
        · have hb := bounds ops hs t d
          have hE := (does ops hn hs t ht d).2.1 rfl
          by_cases hq : b < t.size ∧ bt t (b : Int) = 41
          · exact .inl ⟨_, _, Dv.par l s a o b hlt hp d hq.1 hq.2⟩
          · refine .inr ⟨⟨#[]⟩, suf t b, first_par ops t a hlt hp _ (Ev.bind hE (Ev.just (fun k => ?_))), Nat.zero_le _⟩
            dsimp only
            rw [close_ok t b hb.1]
            have : (decide (b < t.size) && ((t.extract b (b + 1)).toList == [41])) = false := by
              by_cases h : b < t.size
              · rw [beq_eq_false_iff_ne.2 (fun h2 => hq ⟨h, (is41 t b h).1 h2⟩), Bool.and_false]
              · rw [decide_eq_false h, Bool.false_and]
            rw [this, Option.bind_some, if_neg Bool.false_ne_true]
        · refine .inr ?_
          cases hq : hpre u (⟨#[41]⟩ : ByteArray) with
          | true =>
            have h1 : 1 ≤ u.size := by
              by_cases h : 1 ≤ u.size
              · exact h
              · unfold hpre strings_HasPrefix.f stringslite_HasPrefix.f at hq
                have h1 : (⟨#[41]⟩ : ByteArray).size = 1 := rfl
                rw [if_neg (by omega)] at hq
                exact absurd hq (by simp)
            refine ⟨o, u.extract 1 u.size, first_par ops t a hlt hp _ (Ev.bind e (Ev.just (fun k => ?_))), by omega⟩
            dsimp only
            rw [hpre_eq, hq, Option.bind_some, if_pos rfl, if_pos (by omega)]
          | false =>
            refine ⟨⟨#[]⟩, u, first_par ops t a hlt hp _ (Ev.bind e (Ev.just (fun k => ?_))), Nat.zero_le _⟩
            dsimp only
            rw [hpre_eq, hq, Option.bind_some, if_neg Bool.false_ne_true]
      · refine .inr ⟨⟨#[]⟩, suf t a, first_start ops t a hlt _ ?_, Nat.zero_le _⟩
        rw [if_neg (show ¬ (48 ≤ bt t (a : Int) ∧ bt t (a : Int) ≤ 57) from hf), bne_iff_ne.2 hp]
        refine Ev.done (fun k => ?_)
        simp only [impl_climber_first.j0]
        rw [if_pos trivial]
  · refine .inr ⟨⟨#[]⟩, suf t a, ?_, Nat.zero_le _⟩
    refine Ev.step (f := fun k => some ((⟨#[]⟩ : ByteArray), suf t a, true)) (fun k => ?_) (Ev.now _)
    unfold impl_climber_first.f
    rw [if_neg Bool.false_ne_true, if_pos (suf_nil t a (by omega))]
    simp only [impl_climber_first.j0]
    rw [if_pos trivial]
include hn hs ht in
theorem loop_or (l : Int) (s : ByteArray) (a : Nat) (ha : a ≤ t.size) (hsz : s.size + 3 * (t.size - a) ≤ 100000) (IH : ∀ (l : Int) (u : ByteArray), a + 1 ≤ t.size → (∃ o b, Dv ops t 1 l u (a + 1) o b) ∨ Bad1 ops t l (a + 1))
    (IHL : ∀ (u : ByteArray) (b : Nat), a < b → b ≤ t.size → u.size + 3 * (t.size - b) ≤ 100000 → (∃ o c, Dv ops t 2 l u b o c) ∨ Bad2 ops t l u b) : (∃ o b, Dv ops t 2 l s a o b) ∨ Bad2 ops t l s a := by
  by_cases hx : nx ops t a < ops.length
  · have hlt := nx_lt ops hs t a ha hx
    have hg := sgn_size ops hs t a hx
    by_cases hl : lev ops t a < l
    · exact .inl ⟨_, _, Dv.stop l s a ha (fun _ => hl)⟩
    · rcases IH (deep ops t a) s (by omega) with ⟨o, b, d⟩ | ⟨o, u, e, hu⟩
      · have hb := bounds ops hs t d
        have hb1 := hb.2.1 (.inr rfl)
        obtain ⟨z1, z2, z3, z4⟩ := sizes ops hs t s o a hx (by omega) (by omega)
        have hps := put_size s (sgn ops t a) o
        rcases IHL (put s (sgn ops t a) o) b (by omega) hb.1 (by omega) with ⟨p, c, d2⟩ | ⟨p, v, e2, hv⟩
        · exact .inl ⟨p, c, Dv.bind l s a o b p c hlt hx hl d d2⟩
        · refine .inr ⟨p, v, loop_bind ops hn t l s a hlt hx hl _ (Ev.bind ((does ops hn hs t ht d).2.1 rfl) (Ev.same e2 (fun k => ?_))), by omega⟩
          dsimp only
          rw [if_pos z1, if_pos z2, if_pos z3, if_pos z4]
      · obtain ⟨z1, z2, z3, z4⟩ := sizes ops hs t s o a hx (by omega) (by omega)
        have hps := put_size s (sgn ops t a) o
        refine .inr ⟨put s (sgn ops t a) o, u, loop_bind ops hn t l s a hlt hx hl _ (Ev.bind e (Ev.done (fun k => ?_))), by omega⟩
        dsimp only
        rw [if_pos z1, if_pos z2, if_pos z3, if_pos z4]
        simp only [impl_climber_climb.l0]
        rw [if_pos trivial]
  · exact .inl ⟨_, _, Dv.stop l s a ha (fun h => absurd h hx)⟩
include hn hs ht in
theorem climb_or (l : Int) (s : ByteArray) (a : Nat) (ha : a ≤ t.size) (hF : (∃ o b, Dv ops t 0 l s a o b) ∨ Bad0 ops t a)
    (hL : ∀ (u : ByteArray) (b : Nat), a < b → b ≤ t.size → u.size + 3 * (t.size - b) ≤ 100000 → (∃ o c, Dv ops t 2 l u b o c) ∨ Bad2 ops t l u b) : (∃ o b, Dv ops t 1 l s a o b) ∨ Bad1 ops t l a := by
  rcases hF with ⟨o, b, d⟩ | ⟨o, u, e, hu⟩
  · have hb := bounds ops hs t d
    have hb1 := hb.2.1 (.inl rfl)
    rcases hL o b (by omega) hb.1 (by omega) with ⟨p, c, d2⟩ | ⟨p, v, e2, hv⟩
    · exact .inl ⟨p, c, Dv.climb l s a o b p c d d2⟩
    · exact .inr ⟨p, v, climb_start ops t l a _ (Ev.bind ((does ops hn hs t ht d).1 rfl) e2), by omega⟩
  · refine .inr ⟨o, u, climb_start ops t l a _ (Ev.bind e (Ev.done (fun k => ?_))), hu⟩
    simp only [impl_climber_climb.l0]
    rw [if_pos trivial]
def All (a : Nat) : Prop := (∀ (l : Int) (s : ByteArray), (∃ o b, Dv ops t 1 l s a o b) ∨ Bad1 ops t l a) ∧ (∀ (l : Int) (s : ByteArray), s.size + 3 * (t.size - a) ≤ 100000 → (∃ o b, Dv ops t 2 l s a o b) ∨ Bad2 ops t l s a)
include hn hs ht in
theorem all_step (a : Nat) (ha : a ≤ t.size) (IH : ∀ b, a < b → b ≤ t.size → All ops t b) : All ops t a :=
  ⟨fun l s => climb_or ops hn hs t ht l s a ha (first_or ops hn hs t ht l s a ha (fun h => (IH (a + 1) (by omega) h).1 0 s)) (fun u b h1 h2 h3 => (IH b h1 h2).2 l u h3),
    fun l s hsz => loop_or ops hn hs t ht l s a ha hsz (fun l u h => (IH (a + 1) (by omega) h).1 l u) (fun u b h1 h2 h3 => (IH b h1 h2).2 l u h3)⟩
include hn hs ht in
theorem all_or (n : Nat) : ∀ a : Nat, a ≤ t.size → t.size - a ≤ n → All ops t a := by
  induction n with
  | zero => intro a ha h; exact all_step ops hn hs t ht a ha (fun b h1 h2 => by omega)
  | succ n ih => intro a ha h; exact all_step ops hn hs t ht a ha (fun b h1 h2 => ih b h2 (by omega))

/-! ### a derivation in another text -/
theorem mid (A B C : ByteArray) : (A ++ B ++ C).extract A.size (A.size + B.size) = B := by
  apply ByteArray.ext
  rw [ByteArray.data_extract, ByteArray.data_append, ByteArray.data_append]
  apply Array.ext'
  simp [← ByteArray.size_data]
theorem findIdx_same {α : Type} (p q : α → Bool) : ∀ l : List α, (∀ x ∈ l, p x = q x) → l.findIdx p = l.findIdx q := by
  intro l
  induction l with
  | nil => intro _; rfl
  | cons x r ih =>
    intro h
    rw [List.findIdx_cons, List.findIdx_cons, h x List.mem_cons_self, ih (fun y hy => h y (List.mem_cons_of_mem _ hy))]
theorem toList_inj {a b : ByteArray} (h : a.toList = b.toList) : a = b := by
  rw [toList_eq, toList_eq] at h
  exact ByteArray.ext (Array.ext' h)

variable (u : ByteArray) (p : Nat)
/-- t lies in u from p on. -/
def Emb : Prop := p + t.size ≤ u.size ∧ u.extract p (p + t.size) = t
theorem emb_one (E : Emb t u p) (a : Nat) (ha : a < t.size) : u.extract (p + a) (p + a + 1) = t.extract a (a + 1) := by
  have h : (u.extract p (p + t.size)).extract a (a + 1) = t.extract a (a + 1) := by rw [E.2]
  rw [ByteArray.extract_extract, show min (p + (a + 1)) (p + t.size) = p + a + 1 from by omega] at h
  exact h
theorem emb_bt (E : Emb t u p) (a : Nat) (ha : a < t.size) : bt u ((p + a : Nat) : Int) = bt t (a : Int) := by
  have h0 := E.1
  have h := emb_one t u p E a ha
  have h1 := one_list u (p + a) (by omega)
  have h2 := one_list t a ha
  rw [h, h2] at h1
  have h3 := (List.cons.inj h1).1
  have e1 : (((p + a : Nat) : Int)).toNat < u.size := by omega
  have e2 : ((a : Int)).toNat < t.size := by omega
  rw [← bt_at u _ e1, ← bt_at t _ e2]
  show ((u[p + a].toNat : Nat) : Int) = ((t[a].toNat : Nat) : Int)
  rw [h3]
include hs in
theorem emb_nx (E : Emb t u p) (a : Nat) (ha : a < t.size) : nx ops u (p + a) = nx ops t a := by
  have h0 := E.1
  refine findIdx_same _ _ _ (fun o ho => ?_)
  rw [hpre_one u (p + a) (by omega) _ (hs o ho), hpre_one t a (by omega) _ (hs o ho), emb_one t u p E a ha, decide_eq_true ha, decide_eq_true (show p + a < u.size by omega)]
include hs in
theorem nx_end : ¬ nx ops t t.size < ops.length := fun h => by
  have := nx_lt ops hs t t.size (Nat.le_refl _) h
  omega
include hs in
theorem move {k : Nat} {l : Int} {s o : ByteArray} {a b : Nat} (d : Dv ops t k l s a o b) (E : Emb t u p) : (k = 0 ∨ b < t.size ∨ ¬ nx ops u (p + t.size) < ops.length) → Dv ops u k l s (p + a) o (p + b) := by
  have h0 := E.1
  induction d with
  | fig l s a hlt hf =>
    intro _
    rw [← emb_one t u p E a hlt]
    refine Dv.fig l s (p + a) (by omega) ?_
    unfold fig at hf ⊢
    rw [emb_bt t u p E a hlt]
    exact hf
  | par l s a o b hlt hp d hb hq ih =>
    intro _
    exact Dv.par l s (p + a) o (p + b) (by omega) ((emb_bt t u p E a hlt).trans hp) (ih (.inr (.inl hb))) (by omega) ((emb_bt t u p E b hb).trans hq)
  | climb l s a o b q c d1 d2 i1 i2 =>
    intro h
    exact Dv.climb l s (p + a) o (p + b) q (p + c) (i1 (.inl rfl)) (i2 (h.elim (fun h => by omega) .inr))
  | stop l s a ha hl =>
    intro h
    refine Dv.stop l s (p + a) (by omega) (fun hx => ?_)
    rcases h with h | h | h
    · omega
    · have e := emb_nx ops hs t u p E a h
      unfold lev
      rw [e] at hx ⊢
      exact hl hx
    · by_cases h1 : a < t.size
      · have e := emb_nx ops hs t u p E a h1
        unfold lev
        rw [e] at hx ⊢
        exact hl hx
      · rw [show a = t.size from by omega] at hx
        exact absurd hx h
  | bind l s a o b q c hlt hx hl d1 d2 i1 i2 =>
    intro h
    have e := emb_nx ops hs t u p E a hlt
    have hb := (bounds ops hs t d2).2.2 rfl
    have h1 : b < t.size ∨ ¬ nx ops u (p + t.size) < ops.length := by
      rcases h with h | h | h
      · omega
      · exact .inl (by omega)
      · exact .inr h
    have el : lev ops u (p + a) = lev ops t a := by unfold lev; rw [e]
    have eg : sgn ops u (p + a) = sgn ops t a := by unfold sgn; rw [e]
    have ed : deep ops u (p + a) = deep ops t a := by unfold deep lev; rw [e]
    refine Dv.bind l s (p + a) o (p + b) q (p + c) (by omega) (by rw [e]; exact hx) (by rw [el]; exact hl) ?_ ?_
    · rw [ed]; exact i1 (.inr h1)
    · rw [eg]; exact i2 (h.elim (fun h => by omega) .inr)

/-! ### what is shown of a derivation -/
inductive Tr : ByteArray → Prop
  | one (v : ByteArray) (a : Nat) : a < v.size → fig v a → Tr (v.extract a (a + 1))
  | two (x g y : ByteArray) (j : Nat) : Tr x → Tr y → j < ops.length → g = (rd_T128 ops (j : Int)).f0 → Tr (put x g y)
theorem tree_of {k : Nat} {l : Int} {s o : ByteArray} {a b : Nat} (d : Dv ops t k l s a o b) : ((k = 0 ∨ k = 1) → Tr ops o) ∧ (k = 2 → Tr ops s → Tr ops o) := by
  induction d with
  | fig l s a h hf => exact ⟨fun _ => Tr.one t a h hf, fun h => by omega⟩
  | par l s a o b h _ d hb _ ih => exact ⟨fun _ => ih.1 (.inr rfl), fun h => by omega⟩
  | climb l s a o b p c d1 d2 i1 i2 => exact ⟨fun _ => i2.2 rfl (i1.1 (.inl rfl)), fun h => by omega⟩
  | stop l s a h _ => exact ⟨fun h => by omega, fun _ h => h⟩
  | bind l s a o b p c h hx _ d1 d2 i1 i2 => exact ⟨fun h => by omega, fun _ hT => i2.2 rfl (Tr.two s (sgn ops t a) o (nx ops t a) hT (i1.1 (.inr rfl)) hx rfl)⟩

variable (hlev : ∀ o ∈ ops, 0 ≤ o.f1) (hsig : ∀ o ∈ ops, o.f0.toList ≠ [41])
include hs hsig in
/-- In front of a closing one there is no operator. -/
theorem nx_close (a : Nat) (ha : a < t.size) (h41 : bt t (a : Int) = 41) : ¬ nx ops t a < ops.length := fun h => by
  have h1 : ops.findIdx (fun o => hpre (suf t a) o.f0) < ops.length := h
  have h2 := List.findIdx_getElem (w := h1)
  have hm := List.getElem_mem h1
  rw [hpre_one t a (by omega) _ (hs _ hm), (is41 t a ha).2 h41] at h2
  simp only [Bool.and_eq_true, beq_iff_eq] at h2
  exact hsig _ hm h2.2.symm
include hs in
theorem nx_sign (a j : Nat) (ha : a < t.size) (hj : j < ops.length) (hg : t.extract a (a + 1) = (rd_T128 ops (j : Int)).f0) : nx ops t a < ops.length ∧ sgn ops t a = (rd_T128 ops (j : Int)).f0 := by
  have hmj : rd_T128 ops (j : Int) ∈ ops := by rw [rdD]; exact getD_mem ops z128 hj
  have h1 : ops.findIdx (fun o => hpre (suf t a) o.f0) < ops.length := List.findIdx_lt_length_of_exists ⟨_, hmj, by
    rw [hpre_one t a (by omega) _ (hs _ hmj), hg, decide_eq_true ha, beq_self_eq_true]
    rfl⟩
  refine ⟨h1, ?_⟩
  have h2 := List.findIdx_getElem (w := h1)
  have hm := List.getElem_mem h1
  rw [hpre_one t a (by omega) _ (hs _ hm), hg] at h2
  simp only [Bool.and_eq_true, beq_iff_eq] at h2
  have e : rd_T128 ops ((ops.findIdx (fun o => hpre (suf t a) o.f0) : Nat) : Int) = ops[ops.findIdx (fun o => hpre (suf t a) o.f0)] := by
    rw [rdD, List.getD_eq_getElem?_getD, List.getElem?_eq_getElem h1, Option.getD_some]
  show (rd_T128 ops ((ops.findIdx (fun o => hpre (suf t a) o.f0) : Nat) : Int)).f0 = _
  rw [e]
  exact toList_inj h2.2.symm
theorem at_close (A : ByteArray) : (A ++ (⟨#[41]⟩ : ByteArray)).size = A.size + 1 ∧ bt (A ++ (⟨#[41]⟩ : ByteArray)) (A.size : Int) = 41 := by
  have h1 : (A ++ (⟨#[41]⟩ : ByteArray)).size = A.size + 1 := by rw [ByteArray.size_append]; rfl
  refine ⟨h1, (is41 _ A.size (by omega)).1 ?_⟩
  have h2 := mid A (⟨#[41]⟩ : ByteArray) ByteArray.empty
  rw [ByteArray.append_empty] at h2
  have h3 : (⟨#[41]⟩ : ByteArray).size = 1 := rfl
  rw [h3] at h2
  rw [h2, toList_eq]
theorem at_open (A : ByteArray) : bt ((⟨#[40]⟩ : ByteArray) ++ A) 0 = 40 := by
  have h1 : ((⟨#[40]⟩ : ByteArray) ++ A).size = 1 + A.size := by rw [ByteArray.size_append]; rfl
  refine (is40 _ 0 (by omega)).1 ?_
  have h2 := mid ByteArray.empty (⟨#[40]⟩ : ByteArray) A
  rw [ByteArray.empty_append] at h2
  have h3 : (⟨#[40]⟩ : ByteArray).size = 1 := rfl
  have h4 : ByteArray.empty.size = 0 := rfl
  rw [h3, h4] at h2
  rw [h2, toList_eq]
include hs hlev hsig in
theorem reads {v : ByteArray} (T : Tr ops v) : ∀ (l : Int) (s : ByteArray), Dv ops v 0 l s 0 v v.size := by
  induction T with
  | one v a ha hf =>
    intro l s
    have hz : (v.extract a (a + 1)).size = 1 := by rw [ByteArray.size_extract]; omega
    have he : (v.extract a (a + 1)).extract 0 (0 + 1) = v.extract a (a + 1) := by
      rw [ByteArray.extract_extract]
      rw [show min (a + (0 + 1)) (a + 1) = a + 1 from by omega]
      rfl
    have E : Emb (v.extract a (a + 1)) v a := ⟨by omega, by rw [hz]⟩
    have d := Dv.fig (ops := ops) (t := v.extract a (a + 1)) l s 0 (by omega) (by
      unfold fig at hf ⊢
      have := emb_bt (v.extract a (a + 1)) v a E 0 (by omega)
      rw [← this]
      exact hf)
    rw [he] at d
    rw [hz]
    exact d
  | two x g y j Tx Ty hj hg ix iy =>
    intro l s
    have hmj : rd_T128 ops (j : Int) ∈ ops := by rw [rdD]; exact getD_mem ops z128 hj
    have hgs : g.size = 1 := by rw [hg]; exact hs _ hmj
    have hz := put_size x g y
    generalize hu : put x g y = u
    rw [hu] at hz
    have h40 : (⟨#[40]⟩ : ByteArray).size = 1 := rfl
    -- where the parts lie
    have Ex : Emb x u 1 := by
      refine ⟨by omega, ?_⟩
      have h := mid (⟨#[40]⟩ : ByteArray) x (g ++ (y ++ (⟨#[41]⟩ : ByteArray)))
      rw [← ByteArray.append_assoc, ← ByteArray.append_assoc, h40] at h
      rw [← hu]
      exact h
    have Eg : u.extract (1 + x.size) (1 + x.size + 1) = g := by
      have h := mid ((⟨#[40]⟩ : ByteArray) ++ x) g (y ++ (⟨#[41]⟩ : ByteArray))
      rw [← ByteArray.append_assoc, ByteArray.size_append, h40, hgs] at h
      rw [← hu]
      exact h
    have Ey : Emb y u (1 + x.size + 1) := by
      refine ⟨by omega, ?_⟩
      have h := mid (((⟨#[40]⟩ : ByteArray) ++ x) ++ g) y (⟨#[41]⟩ : ByteArray)
      rw [ByteArray.size_append, ByteArray.size_append, h40, hgs] at h
      rw [← hu]
      exact h
    have hop : bt u 0 = 40 := by
      rw [← hu]
      unfold put
      rw [ByteArray.append_assoc, ByteArray.append_assoc, ByteArray.append_assoc]
      exact at_open _
    have hcl : bt u ((1 + x.size + 1 + y.size : Nat) : Int) = 41 := by
      have h := (at_close ((((⟨#[40]⟩ : ByteArray) ++ x) ++ g) ++ y)).2
      rw [ByteArray.size_append, ByteArray.size_append, ByteArray.size_append, h40, hgs] at h
      rw [← hu]
      exact h
    have dx := move ops hs x u 1 (ix 0 s) Ex (.inl rfl)
    obtain ⟨n1, n2⟩ := nx_sign ops hs u (1 + x.size) j (by omega) hj (by rw [Eg, hg])
    have hl : ¬ lev ops u (1 + x.size) < 0 := by
      have : 0 ≤ lev ops u (1 + x.size) := by
        refine hlev _ ?_
        rw [rdD]
        exact getD_mem ops z128 n1
      omega
    have dy := move ops hs y u (1 + x.size + 1) (iy (deep ops u (1 + x.size)) x) Ey (.inl rfl)
    have nc := nx_close ops hs u hsig (1 + x.size + 1 + y.size) (by omega) hcl
    have d1 : Dv ops u 1 (deep ops u (1 + x.size)) x (1 + x.size + 1) y (1 + x.size + 1 + y.size) := Dv.climb _ _ _ _ _ _ _ dy (Dv.stop _ _ _ (by omega) (fun h => absurd h nc))
    have d2 : Dv ops u 2 0 x (1 + x.size) u (1 + x.size + 1 + y.size) := Dv.bind 0 x (1 + x.size) y (1 + x.size + 1 + y.size) u _ (by omega) n1 hl d1 (by
      rw [n2, ← hg, hu]
      exact Dv.stop _ _ _ (by omega) (fun h => absurd h nc))
    have d3 : Dv ops u 1 0 s (0 + 1) u (1 + x.size + 1 + y.size) := Dv.climb 0 s (0 + 1) x (1 + x.size) u _ dx d2
    have d4 := Dv.par l s 0 u (1 + x.size + 1 + y.size) (by omega) hop d3 (by omega) hcl
    rw [show u.size = 1 + x.size + 1 + y.size + 1 from by omega]
    exact d4
include hs hlev hsig in
theorem reads_all {v : ByteArray} (T : Tr ops v) (s : ByteArray) : Dv ops v 1 0 s 0 v v.size :=
  Dv.climb 0 s 0 v v.size v v.size (reads ops hs hlev hsig T 0 s) (Dv.stop 0 v v.size (Nat.le_refl _) (fun h => absurd h (nx_end ops hs v)))
include hs hsig in
theorem reads_in {o : ByteArray} {s : ByteArray} (d : Dv ops t 1 0 s 0 o t.size) : Dv ops (((⟨#[40]⟩ : ByteArray) ++ t) ++ (⟨#[41]⟩ : ByteArray)) 1 0 s 0 o (((⟨#[40]⟩ : ByteArray) ++ t) ++ (⟨#[41]⟩ : ByteArray)).size := by
  have hop : bt (((⟨#[40]⟩ : ByteArray) ++ t) ++ (⟨#[41]⟩ : ByteArray)) 0 = 40 := by rw [ByteArray.append_assoc]; exact at_open _
  have h40 : (⟨#[40]⟩ : ByteArray).size = 1 := rfl
  have hc := at_close ((⟨#[40]⟩ : ByteArray) ++ t)
  have hm := mid (⟨#[40]⟩ : ByteArray) t (⟨#[41]⟩ : ByteArray)
  rw [ByteArray.size_append (a := (⟨#[40]⟩ : ByteArray)), h40] at hc
  rw [h40] at hm
  generalize hu : ((⟨#[40]⟩ : ByteArray) ++ t) ++ (⟨#[41]⟩ : ByteArray) = u
  rw [hu] at hop hc hm
  have E : Emb t u 1 := ⟨by omega, hm⟩
  have nc := nx_close ops hs u hsig (1 + t.size) (by omega) hc.2
  have d1 := move ops hs t u 1 d E (.inr (.inr nc))
  have d2 := Dv.par 0 s 0 o (1 + t.size) (by omega) hop d1 (by omega) hc.2
  rw [show u.size = 1 + t.size + 1 from by omega]
  exact Dv.climb 0 s 0 o (1 + t.size + 1) o (1 + t.size + 1) d2 (Dv.stop 0 o (1 + t.size + 1) (by omega) (fun h => absurd h (by
    have := nx_end ops hs u
    rw [show u.size = 1 + t.size + 1 from by omega] at this
    exact this)))

/-! ### Climb -/
theorem sign_one (s : ByteArray) (h : signIn s = true) : s.size = 1 := by
  by_cases h1 : s.size = 1
  · exact h1
  · have := sign_impl s
    rw [if_neg (by omega), h] at this
    exact absurd this (by simp)
theorem sign_41 (s : ByteArray) (h : signIn s = true) : s.toList ≠ [41] := fun e => by
  have hd : ∀ q : Fin 8, (([41] : List UInt8) == (S.extract q.val (q.val + 1)).toList) = false := by decide +kernel
  have h8 : ∀ q, q < 8 → at8 s q = false := fun q hq => by unfold at8; rw [e]; exact hd ⟨q, hq⟩
  unfold signIn at h
  simp only [anyUp, h8 0 (by omega), h8 1 (by omega), h8 2 (by omega), h8 3 (by omega), h8 4 (by omega), h8 5 (by omega), h8 6 (by omega), h8 7 (by omega)] at h
  exact absurd h (by simp)
theorem model_all (l : List S128) (h : model l = true) : (1 ≤ l.length ∧ l.length ≤ 6) ∧ ∀ o ∈ l, o.f0.size = 1 ∧ o.f0.toList ≠ [41] ∧ 0 ≤ o.f1 := by
  unfold model at h
  simp only [Bool.and_eq_true] at h
  refine ⟨by have := h.2; unfold fin at this; simp only [decide_eq_true_eq] at this; omega, fun o ho => ?_⟩
  obtain ⟨i, hi, rfl⟩ := List.mem_iff_getElem.1 ho
  have h1 := (allUp_iff (okAt l) l.length 0).1 h.1 i (Nat.zero_le _) (by omega)
  unfold okAt at h1
  simp only [Bool.and_eq_true] at h1
  have h2 := h1.1
  unfold headOk at h2
  simp only [Bool.and_eq_true, decide_eq_true_eq] at h2
  have e : l.getD i z128 = l[i] := by rw [List.getD_eq_getElem?_getD, List.getElem?_eq_getElem hi, Option.getD_some]
  rw [e] at h2
  exact ⟨sign_one _ h2.1, sign_41 _ h2.1, by omega⟩

theorem climb_of (hm : model ops = true) (h12 : t.size ≤ 12) {o s : ByteArray} (d : Dv ops t 1 0 s 0 o t.size) : Ev (fun k => impl_Climb.f k ops t) (o, true) := by
  obtain ⟨⟨l1, l2⟩, hA⟩ := model_all ops hm
  have e := (does ops (by omega) (fun o ho => (hA o ho).1) t (by omega) d).2.1 rfl
  rw [suf_zero] at e
  unfold impl_Climb.f
  refine Ev.bind (impl_all ops (by omega)) ?_
  simp only [if_pos hm, decide_eq_false (show ¬ (t.size : Int) > 12 by omega)]
  refine Ev.step (f := fun k => (impl_climber_climb.f k ops t false 0).bind fun x => (if x.2.2 = true then (some ((⟨#[]⟩ : ByteArray), false)) else (if x.2.1.toList = ([] : List UInt8) then (some (x.1, true)) else (some ((⟨#[]⟩ : ByteArray), false))))) (fun k => by simp only [impl_Climb.j0]; rw [if_neg Bool.false_ne_true]) (Ev.bind e (Ev.just (fun k => ?_)))
  dsimp only
  rw [if_neg Bool.false_ne_true, if_pos (suf_nil t t.size rfl)]
theorem climb_cases (hm : model ops = true) : (∃ o, t.size ≤ 12 ∧ Dv ops t 1 0 (⟨#[]⟩ : ByteArray) 0 o t.size ∧ Ev (fun k => impl_Climb.f k ops t) (o, true)) ∨ Ev (fun k => impl_Climb.f k ops t) ((⟨#[]⟩ : ByteArray), false) := by
  obtain ⟨⟨l1, l2⟩, hA⟩ := model_all ops hm
  by_cases h12 : t.size ≤ 12
  · have tI : ∀ r, Ev (fun k => (impl_climber_climb.f k ops t false 0).bind fun x => (if x.2.2 = true then (some ((⟨#[]⟩ : ByteArray), false)) else (if x.2.1.toList = ([] : List UInt8) then (some (x.1, true)) else (some ((⟨#[]⟩ : ByteArray), false))))) r → Ev (fun k => impl_Climb.f k ops t) r := fun r e => by
      unfold impl_Climb.f
      refine Ev.bind (impl_all ops (by omega)) ?_
      simp only [if_pos hm, decide_eq_false (show ¬ (t.size : Int) > 12 by omega)]
      exact Ev.step (fun k => by simp only [impl_Climb.j0]; rw [if_neg Bool.false_ne_true]) e
    rcases (all_or ops (by omega) (fun o ho => (hA o ho).1) t (by omega) t.size 0 (Nat.zero_le _) (by omega)).1 0 (⟨#[]⟩ : ByteArray) with ⟨o, b, d⟩ | ⟨o, u, e, _⟩
    · by_cases hb : b = t.size
      · subst hb
        exact .inl ⟨o, h12, d, climb_of ops t hm h12 d⟩
      · have e := (does ops (by omega) (fun o ho => (hA o ho).1) t (by omega) d).2.1 rfl
        have hb2 := (bounds ops (fun o ho => (hA o ho).1) t d).1
        rw [suf_zero] at e
        refine .inr (tI _ (Ev.bind e (Ev.just (fun k => ?_))))
        dsimp only
        rw [if_neg Bool.false_ne_true, if_neg (suf_cons t b (by omega))]
    · rw [suf_zero] at e
      exact .inr (tI _ (Ev.bind e (Ev.just (fun k => if_pos rfl))))
  · refine .inr ?_
    unfold impl_Climb.f
    refine Ev.bind (impl_all ops (by omega)) ?_
    simp only [if_pos hm, decide_eq_true (show (t.size : Int) > 12 by omega)]
    exact Ev.done (fun k => by simp only [impl_Climb.j0]; rw [if_pos trivial])
end Go.Proofs.Ytlkbdoejeomlmaa.MFnParentheses
