/- The program's Climb and the reference's come to the same on every list of operators of at most 1048576 places and every text. -/
import Derived.Test.YtlkbdoejeomlmaaOFnExactClimb
namespace Go.Proofs.Ytlkbdoejeomlmaa.MFnExactClimb
open Go.RowKit Go.Proofs.Ytlkbdoejeomlmaa.PFnExactClimb Go.Proofs.Ytlkbdoejeomlmaa.EFnExactClimb Go.Proofs.Ytlkbdoejeomlmaa.OFnExactClimb Go.Proofs.YtlkbdoejeomlmaaPl Go.Proofs.YtlkbdoejeomlmaaW.PrintWords Go.Proofs.YtlkbdoejeomlmaaW.PrintLast Go.Proofs.YtlkbdoejeomlmaaW.PrintMore
set_option linter.unusedVariables false

theorem Ev.later {α : Type} {g : Nat → Option α} {r : α} (h : Ev g r) : Ev (fun k => g (k + 1)) r := by
  obtain ⟨K, hK⟩ := h
  exact ⟨K, fun k hk => hK (k + 1) (by omega)⟩

/-! ### the text from a place on -/
def suf (t : ByteArray) (a : Nat) : ByteArray := t.extract a t.size
theorem suf_size (t : ByteArray) (a : Nat) : (suf t a).size = t.size - a := by
  unfold suf
  rw [ByteArray.size_extract]
  omega
theorem suf_zero (t : ByteArray) : suf t 0 = t := ByteArray.extract_zero_size
theorem suf_next (t : ByteArray) (a : Nat) (ha : a < t.size) : (suf t a).extract 1 (suf t a).size = suf t (a + 1) := by
  rw [suf_size]
  unfold suf
  rw [ByteArray.extract_extract]
  rw [show min (a + (t.size - a)) t.size = t.size from by omega]
theorem suf_head (t : ByteArray) (a : Nat) (ha : a < t.size) : (suf t a).extract 0 1 = t.extract a (a + 1) := by
  unfold suf
  rw [ByteArray.extract_extract]
  rw [show min (a + 1) t.size = a + 1 from by omega]
  rfl
theorem suf_bt (t : ByteArray) (a : Nat) (ha : a < t.size) : bt (suf t a) 0 = bt t (a : Int) := by
  have h1 : (0 : Int).toNat < (suf t a).size := by rw [suf_size]; show 0 < _; omega
  have h2 : ((a : Int)).toNat < t.size := by omega
  rw [← bt_at (suf t a) 0 h1, ← bt_at t (a : Int) h2]
  unfold suf at h1 ⊢
  rw [ByteArray.getElem_extract]
  congr 2
theorem size_toList (s : ByteArray) : s.toList.length = s.size := by rw [toList_eq]; exact Array.length_toList
theorem suf_nil (t : ByteArray) (a : Nat) (ha : a = t.size) : (suf t a).toList = ([] : List UInt8) := by
  have : (suf t a).toList.length = 0 := by rw [size_toList, suf_size]; omega
  exact List.length_eq_zero_iff.1 this
theorem suf_cons (t : ByteArray) (a : Nat) (ha : a < t.size) : ¬ (suf t a).toList = ([] : List UInt8) := fun h => by
  have : (suf t a).toList.length = 0 := by rw [h]; rfl
  rw [size_toList, suf_size] at this
  omega
theorem one_list (t : ByteArray) (a : Nat) (ha : a < t.size) : (t.extract a (a + 1)).toList = [t[a]] := by
  have hl : (t.extract a (a + 1)).toList.length = 1 := by rw [size_toList, ByteArray.size_extract]; omega
  obtain ⟨c, hc⟩ : ∃ c, (t.extract a (a + 1)).toList = [c] := by
    match h : (t.extract a (a + 1)).toList, hl with
    | [c], _ => exact ⟨c, rfl⟩
  rw [hc]
  have hs : 0 < (t.extract a (a + 1)).size := by rw [ByteArray.size_extract]; omega
  have h0 : (t.extract a (a + 1))[0] = t[a] := ByteArray.getElem_extract hs
  rw [← h0]
  rw [toList_eq] at hc
  have : (t.extract a (a + 1)).data.toList[0]? = some c := by rw [hc]; rfl
  rw [Array.getElem?_toList, Array.getElem?_eq_getElem (by exact hs)] at this
  exact congrArg (fun x => [x]) (Option.some.inj this).symm
theorem one_is (t : ByteArray) (a : Nat) (ha : a < t.size) (c : UInt8) : (t.extract a (a + 1)).toList = [c] ↔ bt t (a : Int) = (c.toNat : Int) := by
  have h2 : ((a : Int)).toNat < t.size := by omega
  rw [one_list t a ha, ← bt_at t (a : Int) h2]
  constructor
  · intro h
    have := List.cons.inj h
    rw [← this.1]
    rfl
  · intro h
    have h3 : (t[a]).toNat = c.toNat := by
      have : ((t[a]).toNat : Int) = (c.toNat : Int) := h
      omega
    rw [UInt8.toNat_inj.1 h3]

/-! ### the next operator -/
theorem hpre_one (t : ByteArray) (a : Nat) (ha : a ≤ t.size) (s : ByteArray) (hs : s.size = 1) : hpre (suf t a) s = (decide (a < t.size) && ((t.extract a (a + 1)).toList == s.toList)) := by
  unfold hpre strings_HasPrefix.f stringslite_HasPrefix.f
  by_cases h : a < t.size
  · rw [if_pos (by rw [suf_size]; omega), if_pos (by omega), if_pos (by rw [suf_size]; omega)]
    have e : (((s.size : Nat) : Int) : Int).toNat = 1 := by omega
    rw [e, suf_head t a h]
    simp [h]
  · rw [if_neg (by rw [suf_size]; omega)]
    simp [h]

variable (ops : List S128) (hn : ops.length ≤ 1048576) (hs : ∀ o ∈ ops, o.f0.size = 1) (t : ByteArray) (ht : t.size ≤ 12)
def nx (a : Nat) : Nat := nextIx (suf t a) ops
def ix (a : Nat) : Int := if nx ops t a < ops.length then (nx ops t a : Int) else -1
def lev (a : Nat) : Int := (rd_T128 ops (nx ops t a : Int)).f1
def sgn (a : Nat) : ByteArray := (rd_T128 ops (nx ops t a : Int)).f0
def deep (a : Nat) : Int := if (rd_T128 ops (nx ops t a : Int)).f2 = true then lev ops t a else wrap64 (lev ops t a + 1)
def put (s g u : ByteArray) : ByteArray := ((((⟨#[40]⟩ : ByteArray) ++ s) ++ g) ++ u) ++ (⟨#[41]⟩ : ByteArray)
theorem put_size (s g u : ByteArray) : (put s g u).size = 1 + s.size + g.size + u.size + 1 := by
  unfold put
  simp only [ByteArray.size_append]
  rfl
include hs in
theorem sgn_size (a : Nat) (h : nx ops t a < ops.length) : (sgn ops t a).size = 1 := by
  refine hs _ ?_
  rw [rdD]
  exact getD_mem ops z128 h
include hs in
theorem nx_lt (a : Nat) (ha : a ≤ t.size) (h : nx ops t a < ops.length) : a < t.size := by
  have h1 : ops.findIdx (fun o => hpre (suf t a) o.f0) < ops.length := h
  have h2 := List.findIdx_getElem (w := h1)
  rw [hpre_one t a ha _ (hs _ (List.getElem_mem h1))] at h2
  simp at h2
  exact h2.1

include hn in
theorem impl_next (a : Nat) : impl_climber_next.f ops (suf t a) false = some (if nx ops t a < ops.length then (sgn ops t a, lev ops t a, (rd_T128 ops (nx ops t a : Int)).f2, true, suf t a, false) else ((⟨#[]⟩ : ByteArray), 0, false, false, suf t a, false)) := by
  unfold impl_climber_next.f
  rw [if_pos hn]
  by_cases h : nx ops t a < ops.length
  · rw [if_pos h, if_pos (show nextIx (suf t a) ops < ops.length from h)]; rfl
  · rw [if_neg h, if_neg (show ¬ nextIx (suf t a) ops < ops.length from h)]

include hn hs ht in
theorem spec_op (a : Nat) (ha : a ≤ t.size) : Ev (fun k => spec_l13Climb_op.f k ops t (a : Int) false) (ix ops t a, t, (a : Int), false) := by
  unfold spec_l13Climb_op.f
  have main : ∀ d i : Nat, i + d = ops.length → i ≤ nx ops t a → Ev (fun k => spec_l13Climb_op.l0 k (i : Int) ops t (a : Int) false) (ix ops t a, t, (a : Int), false) := by
    intro d
    induction d with
    | zero =>
      intro i h hi
      have hix : ix ops t a = -1 := if_neg (by omega)
      rw [hix]
      refine Ev.step (f := fun k => spec_l13Climb_op.j1 k (i : Int) false ops t (a : Int) false) (fun k => by simp only [spec_l13Climb_op.l0]; rw [if_neg (by omega)]) (Ev.done (fun k => ?_))
      simp only [spec_l13Climb_op.j1]
      rw [if_neg Bool.false_ne_true]
    | succ d ih =>
      intro i h hi
      have hw : wrap64 ((i : Int) + 1) = ((i + 1 : Nat) : Int) := up64 (n := ops.length) (by omega) (by omega)
      have hwa : wrap64 ((a : Int) + 1) = ((a + 1 : Nat) : Int) := w64 (by omega) (by omega)
      by_cases hlt : a < t.size
      · refine Ev.step (f := fun k => spec_l13Climb_op.j1 k (i : Int) true ops t (a : Int) false) (fun k => by simp only [spec_l13Climb_op.l0]; rw [if_pos (by omega), if_neg Bool.false_ne_true]; rw [decide_eq_true (show (a : Int) < (t.size : Int) by omega)]) ?_
        have hp : hpre (suf t a) (rd_T128 ops (i : Int)).f0 = ((t.extract a (a + 1)).toList == (rd_T128 ops (i : Int)).f0.toList) := by
          rw [hpre_one t a ha _ (by rw [rdD]; exact hs _ (getD_mem ops z128 (by omega)))]
          simp [hlt]
        by_cases hq : (t.extract a (a + 1)).toList = (rd_T128 ops (i : Int)).f0.toList
        · have hx : nx ops t a = i := nextIx_hit (by omega) hi (by rw [hp]; exact beq_iff_eq.2 hq)
          have hix : ix ops t a = (i : Int) := by unfold ix; rw [hx, if_pos (by omega)]
          rw [hix]
          refine Ev.done (fun k => ?_)
          simp only [spec_l13Climb_op.j1, hwa]
          rw [if_pos trivial, if_pos (by omega), if_pos (by omega), if_pos (by omega), if_pos (by omega), if_pos (by omega)]
          rw [show ((a : Int)).toNat = a from by omega, show (((a + 1 : Nat) : Int)).toNat = a + 1 from by omega, if_pos hq]
        · have hx : i + 1 ≤ nx ops t a := nextIx_miss (by omega) hi (by rw [hp]; exact beq_eq_false_iff_ne.2 hq)
          have e := ih (i + 1) (by omega) hx
          refine Ev.next e (fun k => ?_)
          simp only [spec_l13Climb_op.j1, hwa]
          rw [if_pos trivial, if_pos (by omega), if_pos (by omega), if_pos (by omega), if_pos (by omega), if_pos (by omega)]
          rw [show ((a : Int)).toNat = a from by omega, show (((a + 1 : Nat) : Int)).toNat = a + 1 from by omega, if_neg hq, hw]
      · have hix : ix ops t a = -1 := if_neg (fun h => hlt (nx_lt ops hs t a ha h))
        rw [hix]
        refine Ev.step (f := fun k => spec_l13Climb_op.j1 k (i : Int) false ops t (a : Int) false) (fun k => by simp only [spec_l13Climb_op.l0]; rw [if_pos (by omega), if_neg Bool.false_ne_true]; rw [decide_eq_false (show ¬ (a : Int) < (t.size : Int) by omega)]) (Ev.done (fun k => ?_))
        simp only [spec_l13Climb_op.j1]
        rw [if_neg Bool.false_ne_true]
  exact main ops.length 0 (by omega) (Nat.zero_le _)

/-! ### what both come to -/
def Good (least : Int) (a : Nat) (o : ByteArray) (b : Nat) : Prop :=
  Ev (fun k => impl_climber_climb.f k ops (suf t a) false least) (o, suf t b, false) ∧ Ev (fun k => spec_l13Climb_climb.f k ops t (a : Int) false least) (o, t, (b : Int), false) ∧ a < b ∧ b ≤ t.size ∧ o.size ≤ 3 * (b - a)
def Bad (least : Int) (a : Nat) : Prop :=
  (∃ o s, Ev (fun k => impl_climber_climb.f k ops (suf t a) false least) (o, s, true) ∧ o.size ≤ 3 * (t.size - a)) ∧ (∃ o z, Ev (fun k => spec_l13Climb_climb.f k ops t (a : Int) false least) (o, t, z, true))
def GoodF (a : Nat) (o : ByteArray) (b : Nat) : Prop :=
  Ev (fun k => impl_climber_first.f (impl_climber_climb.f k) k ops (suf t a) false) (o, suf t b, false) ∧ Ev (fun k => spec_l13Climb_atom.f (spec_l13Climb_climb.f k) k ops t (a : Int) false) (o, t, (b : Int), false) ∧ a < b ∧ b ≤ t.size ∧ o.size ≤ 3 * (b - a)
def BadF (a : Nat) : Prop :=
  (∃ o s, Ev (fun k => impl_climber_first.f (impl_climber_climb.f k) k ops (suf t a) false) (o, s, true) ∧ o.size ≤ 3 * (t.size - a)) ∧ (∃ o z, Ev (fun k => spec_l13Climb_atom.f (spec_l13Climb_climb.f k) k ops t (a : Int) false) (o, t, z, true))
def GoodL (least : Int) (s : ByteArray) (a : Nat) (o : ByteArray) (b : Nat) : Prop :=
  Ev (fun k => impl_climber_climb.l0 k least s ops (suf t a) false) (o, suf t b, false) ∧ Ev (fun k => spec_l13Climb_climb.l0 k least s ops t (a : Int) false) (o, t, (b : Int), false) ∧ a ≤ b ∧ b ≤ t.size ∧ o.size ≤ s.size + 3 * (b - a)
def BadL (least : Int) (s : ByteArray) (a : Nat) : Prop :=
  (∃ o u, Ev (fun k => impl_climber_climb.l0 k least s ops (suf t a) false) (o, u, true) ∧ o.size ≤ s.size + 3 * (t.size - a)) ∧ (∃ o z, Ev (fun k => spec_l13Climb_climb.l0 k least s ops t (a : Int) false) (o, t, z, true))

theorem isFigure_ok (x : Int) (h0 : 0 ≤ x) (h1 : x ≤ 255) : impl_isFigure.f x = some (decide (48 ≤ x ∧ x ≤ 57)) := by
  unfold impl_isFigure.f
  rw [within_ok, w64 (by omega) (by omega)]
  rfl
theorem figure_ok (x : Int) : spec_l10Figure.f x = some (decide (48 ≤ x ∧ x ≤ 57)) := by
  unfold spec_l10Figure.f
  by_cases h : x ≥ 48
  · rw [if_pos h]; simp [h]
  · rw [if_neg h]; simp; omega

include ht in
theorem first_ok (a : Nat) (ha : a ≤ t.size) (IH : a + 1 ≤ t.size → (∃ o b, Good ops t 0 (a + 1) o b) ∨ Bad ops t 0 (a + 1)) : (∃ o b, GoodF ops t a o b) ∨ BadF ops t a := by
  have hwa : wrap64 ((a : Int) + 1) = ((a + 1 : Nat) : Int) := w64 (by omega) (by omega)
  by_cases hlt : a < t.size
  · have hsz : (0 : Int) < ((suf t a).size : Int) := by rw [suf_size]; omega
    have hsz1 : (1 : Int) ≤ ((suf t a).size : Int) := by rw [suf_size]; omega
    obtain ⟨b0, b1⟩ := bt_range t (a : Int)
    have hc := one_is t a hlt 40
    have h40 : ((40 : UInt8).toNat : Int) = 40 := rfl
    rw [h40] at hc
    -- the program's head and the reference's
    have startI : ∀ r, Ev (fun k => impl_climber_first.j0 (impl_climber_climb.f k) k (if 48 ≤ bt t (a : Int) ∧ bt t (a : Int) ≤ 57 then false else (bt t (a : Int) != 40)) ops (suf t a) false) r → Ev (fun k => impl_climber_first.f (impl_climber_climb.f k) k ops (suf t a) false) r := fun r e => by
      refine Ev.same e (fun k => ?_)
      unfold impl_climber_first.f
      rw [if_neg Bool.false_ne_true, if_neg (suf_cons t a hlt), if_pos hsz, suf_bt t a hlt, isFigure_ok _ b0 b1, Option.bind_some]
      by_cases h : 48 ≤ bt t (a : Int) ∧ bt t (a : Int) ≤ 57
      · rw [if_pos h, if_pos (decide_eq_true h)]
      · rw [if_neg h, if_neg (by simpa using h)]
    have startS : ∀ r, Ev (fun k => spec_l13Climb_atom.j0 (spec_l13Climb_climb.f k) k false ops t (a : Int) false) r → Ev (fun k => spec_l13Climb_atom.f (spec_l13Climb_climb.f k) k ops t (a : Int) false) r := fun r e => by
      refine Ev.same e (fun k => ?_)
      unfold spec_l13Climb_atom.f
      rw [if_neg Bool.false_ne_true, decide_eq_false (show ¬ (a : Int) ≥ (t.size : Int) by omega)]
    by_cases hf : 48 ≤ bt t (a : Int) ∧ bt t (a : Int) ≤ 57
    · refine .inl ⟨t.extract a (a + 1), a + 1, ?_, ?_, by omega, by omega, by rw [ByteArray.size_extract]; omega⟩
      · refine startI _ ?_
        rw [if_pos hf]
        refine Ev.done (fun k => ?_)
        simp only [impl_climber_first.j0]
        rw [if_neg Bool.false_ne_true, if_pos (by omega), if_pos hsz1, suf_head t a hlt, if_neg (fun h => by have := hc.1 h; omega), suf_next t a hlt]
      · refine startS _ (Ev.done (fun k => ?_))
        simp only [spec_l13Climb_atom.j0, hwa]
        rw [if_neg Bool.false_ne_true, if_pos (by omega), if_pos (by omega), figure_ok, Option.bind_some, if_pos (decide_eq_true hf)]
        have hw2 : wrap64 (((a + 1 : Nat) : Int) - 1) = (a : Int) := by rw [w64 (by omega) (by omega)]; omega
        rw [hw2, if_pos (by omega), if_pos (by omega), if_pos (by omega), show ((a : Int)).toNat = a from by omega, show (((a + 1 : Nat) : Int)).toNat = a + 1 from by omega]
    · by_cases hp : bt t (a : Int) = 40
      · have stepI : ∀ r, Ev (fun k => (impl_climber_climb.f k ops (suf t (a + 1)) false 0).bind fun x => ((strings_HasPrefix.f x.2.1 (⟨#[41]⟩ : ByteArray)).bind fun q => (if q = true then (if 1 ≤ (x.2.1.size : Int) then (some (x.1, x.2.1.extract 1 x.2.1.size, x.2.2)) else (none)) else (some ((⟨#[]⟩ : ByteArray), x.2.1, true))))) r → Ev (fun k => impl_climber_first.f (impl_climber_climb.f k) k ops (suf t a) false) r := fun r e => by
          refine startI r ?_
          rw [if_neg hf, bne_eq_false_iff_eq.2 hp]
          refine Ev.step (fun k => ?_) (Ev.later e)
          simp only [impl_climber_first.j0]
          rw [if_neg Bool.false_ne_true, if_pos (by omega), if_pos hsz1, suf_head t a hlt, if_pos (hc.2 hp), suf_next t a hlt]
        have stepS : ∀ r, Ev (fun k => (spec_l13Climb_climb.f k ops t ((a + 1 : Nat) : Int) false 0).bind fun x => (if x.2.2.2 = true then (some ((⟨#[]⟩ : ByteArray), x.2.1, x.2.2.1, true)) else (if x.2.2.1 ≥ (x.2.1.size : Int) then (some ((⟨#[]⟩ : ByteArray), x.2.1, x.2.2.1, true)) else (if 0 ≤ x.2.2.1 then (if x.2.2.1 < (x.2.1.size : Int) then (if (bt x.2.1 x.2.2.1) = 41 then (some (x.1, x.2.1, wrap64 (x.2.2.1 + 1), x.2.2.2)) else (some ((⟨#[]⟩ : ByteArray), x.2.1, x.2.2.1, true))) else (none)) else (none))))) r → Ev (fun k => spec_l13Climb_atom.f (spec_l13Climb_climb.f k) k ops t (a : Int) false) r := fun r e => by
          refine startS r (Ev.step (fun k => ?_) (Ev.later e))
          simp only [spec_l13Climb_atom.j0, hwa]
          rw [if_neg Bool.false_ne_true, if_pos (by omega), if_pos (by omega), figure_ok, Option.bind_some, if_neg (by simpa using hf), if_pos hp]
        rcases IH (by omega) with ⟨o, b, gi, gs, g1, g2, g3⟩ | ⟨⟨o, s, bi, bo⟩, o2, z, bs⟩
        · have hwb : wrap64 ((b : Int) + 1) = ((b + 1 : Nat) : Int) := w64 (by omega) (by omega)
          have hh : strings_HasPrefix.f (suf t b) (⟨#[41]⟩ : ByteArray) = some (decide (b < t.size) && ((t.extract b (b + 1)).toList == [41])) := by
            rw [hpre_eq, hpre_one t b g2 _ rfl, show (⟨#[41]⟩ : ByteArray).toList = [41] from by rw [toList_eq]]
          by_cases hb : b < t.size
          · have hc2 := one_is t b hb 41
            have h41 : ((41 : UInt8).toNat : Int) = 41 := rfl
            rw [h41] at hc2
            by_cases hq : bt t (b : Int) = 41
            · refine .inl ⟨o, b + 1, stepI _ (Ev.bind gi ?_), stepS _ (Ev.bind gs ?_), by omega, by omega, by omega⟩
              · refine Ev.just (fun k => ?_)
                dsimp only
                rw [hh, decide_eq_true hb, hc2.2 hq]
                simp only [Bool.true_and, beq_self_eq_true, Option.bind_some, if_true]
                rw [if_pos (by rw [suf_size]; omega), suf_next t b hb]
              · refine Ev.just (fun k => ?_)
                dsimp only
                rw [if_neg Bool.false_ne_true, if_neg (by omega), if_pos (by omega), if_pos (by omega), if_pos hq, hwb]
            · refine .inr ⟨⟨⟨#[]⟩, suf t b, stepI _ (Ev.bind gi (Ev.just (fun k => ?_))), Nat.zero_le _⟩, ⟨#[]⟩, (b : Int), stepS _ (Ev.bind gs (Ev.just (fun k => ?_)))⟩
              · dsimp only
                rw [hh, beq_eq_false_iff_ne.2 (fun h => hq (hc2.1 h)), Bool.and_false, Option.bind_some, if_neg Bool.false_ne_true]
              · dsimp only
                rw [if_neg Bool.false_ne_true, if_neg (by omega), if_pos (by omega), if_pos (by omega), if_neg hq]
          · refine .inr ⟨⟨⟨#[]⟩, suf t b, stepI _ (Ev.bind gi (Ev.just (fun k => ?_))), Nat.zero_le _⟩, ⟨#[]⟩, (b : Int), stepS _ (Ev.bind gs (Ev.just (fun k => ?_)))⟩
            · dsimp only
              rw [hh, decide_eq_false hb, Bool.false_and, Option.bind_some, if_neg Bool.false_ne_true]
            · dsimp only
              rw [if_neg Bool.false_ne_true, if_pos (by omega)]
        · refine .inr ⟨?_, ⟨#[]⟩, z, stepS _ (Ev.bind bs (Ev.just (fun k => if_pos rfl)))⟩
          cases hq : hpre s (⟨#[41]⟩ : ByteArray) with
          | true =>
            have h1 : 1 ≤ s.size := by
              by_cases h : 1 ≤ s.size
              · exact h
              · unfold hpre strings_HasPrefix.f stringslite_HasPrefix.f at hq
                have h1 : (⟨#[41]⟩ : ByteArray).size = 1 := rfl
                rw [if_neg (by omega)] at hq
                exact absurd hq (by simp)
            refine ⟨o, s.extract 1 s.size, stepI _ (Ev.bind bi (Ev.just (fun k => ?_))), by omega⟩
            dsimp only
            rw [hpre_eq, hq, Option.bind_some, if_pos rfl, if_pos (by omega)]
          | false =>
            refine ⟨⟨#[]⟩, s, stepI _ (Ev.bind bi (Ev.just (fun k => ?_))), Nat.zero_le _⟩
            dsimp only
            rw [hpre_eq, hq, Option.bind_some, if_neg Bool.false_ne_true]
      · refine .inr ⟨⟨⟨#[]⟩, suf t a, startI _ ?_, Nat.zero_le _⟩, ⟨#[]⟩, ((a + 1 : Nat) : Int), startS _ (Ev.done (fun k => ?_))⟩
        · rw [if_neg hf, bne_iff_ne.2 hp]
          refine Ev.done (fun k => ?_)
          simp only [impl_climber_first.j0]
          rw [if_pos trivial]
        · simp only [spec_l13Climb_atom.j0, hwa]
          rw [if_neg Bool.false_ne_true, if_pos (by omega), if_pos (by omega), figure_ok, Option.bind_some, if_neg (by simpa using hf), if_neg hp]
  · refine .inr ⟨⟨⟨#[]⟩, suf t a, ?_, Nat.zero_le _⟩, ⟨#[]⟩, (a : Int), ?_⟩
    · refine Ev.step (f := fun k => some ((⟨#[]⟩ : ByteArray), suf t a, true)) (fun k => ?_) (Ev.now _)
      unfold impl_climber_first.f
      rw [if_neg Bool.false_ne_true, if_pos (suf_nil t a (by omega))]
      simp only [impl_climber_first.j0]
      rw [if_pos trivial]
    · refine Ev.step (f := fun k => some ((⟨#[]⟩ : ByteArray), t, (a : Int), true)) (fun k => ?_) (Ev.now _)
      unfold spec_l13Climb_atom.f
      rw [if_neg Bool.false_ne_true, decide_eq_true (show (a : Int) ≥ (t.size : Int) by omega)]
      simp only [spec_l13Climb_atom.j0]
      rw [if_pos trivial]

include hn hs ht in
theorem loop_ok (least : Int) (s : ByteArray) (a : Nat) (ha : a ≤ t.size) (hsz : s.size + 3 * (t.size - a) ≤ 100000) (IH : ∀ l, a + 1 ≤ t.size → (∃ o b, Good ops t l (a + 1) o b) ∨ Bad ops t l (a + 1))
    (IHL : ∀ (u : ByteArray) (b : Nat), a < b → b ≤ t.size → u.size + 3 * (t.size - b) ≤ 100000 → (∃ o c, GoodL ops t least u b o c) ∨ BadL ops t least u b) : (∃ o b, GoodL ops t least s a o b) ∨ BadL ops t least s a := by
  have hwa : wrap64 ((a : Int) + 1) = ((a + 1 : Nat) : Int) := w64 (by omega) (by omega)
  by_cases hx : nx ops t a < ops.length
  · have hlt := nx_lt ops hs t a ha hx
    have hix : ix ops t a = (nx ops t a : Int) := if_pos hx
    have hg := sgn_size ops hs t a hx
    by_cases hl : lev ops t a < least
    · refine .inl ⟨s, a, ?_, ?_, by omega, ha, by omega⟩
      · refine Ev.step (f := fun k => impl_climber_climb.j1 k least s true ops (suf t a) false (sgn ops t a) (lev ops t a) (rd_T128 ops (nx ops t a : Int)).f2) (fun k => ?_) (Ev.done (fun k => ?_))
        · simp only [impl_climber_climb.l0]
          rw [if_neg Bool.false_ne_true, impl_next ops hn t a, if_pos hx, Option.bind_some]
          dsimp only
          rw [if_pos rfl, decide_eq_true hl]
        · simp only [impl_climber_climb.j1]
          rw [if_pos trivial]
      · refine Ev.step (f := fun k => (spec_l13Climb_op.f k ops t (a : Int) false).bind fun x => (if x.1 < 0 then (spec_l13Climb_climb.j1 k least s x.1 true ops x.2.1 x.2.2.1 x.2.2.2) else (if 0 ≤ x.1 then (if x.1 < (ops.length : Int) then (spec_l13Climb_climb.j1 k least s x.1 (decide (((rd_T128 ops x.1).f1) < least)) ops x.2.1 x.2.2.1 x.2.2.2) else (none)) else (none)))) (fun k => by simp only [spec_l13Climb_climb.l0]) ?_
        refine Ev.bind (spec_op ops hn hs t ht a ha) ?_
        dsimp only
        rw [hix]
        refine Ev.done (fun k => ?_)
        rw [if_neg (by omega), if_pos (by omega), if_pos (by omega), decide_eq_true (show (rd_T128 ops (nx ops t a : Int)).f1 < least from hl)]
        simp only [spec_l13Climb_climb.j1]
        rw [if_pos trivial]
    · -- an operator that binds
      have stepI : ∀ r, Ev (fun k => (impl_climber_climb.f k ops (suf t (a + 1)) false (deep ops t a)).bind fun x => (if 1 + s.size ≤ 9223372036854775807 then (if ((⟨#[40]⟩ : ByteArray) ++ s).size + (sgn ops t a).size ≤ 9223372036854775807 then (if (((⟨#[40]⟩ : ByteArray) ++ s) ++ (sgn ops t a)).size + x.1.size ≤ 9223372036854775807 then (if ((((⟨#[40]⟩ : ByteArray) ++ s) ++ (sgn ops t a)) ++ x.1).size + 1 ≤ 9223372036854775807 then (impl_climber_climb.l0 k least (put s (sgn ops t a) x.1) ops x.2.1 x.2.2) else (none)) else (none)) else (none)) else (none))) r → Ev (fun k => impl_climber_climb.l0 k least s ops (suf t a) false) r := fun r e => by
        refine Ev.step (f := fun k => impl_climber_climb.j1 k least s false ops (suf t a) false (sgn ops t a) (lev ops t a) (rd_T128 ops (nx ops t a : Int)).f2) (fun k => ?_) (Ev.step (fun k => ?_) e)
        · simp only [impl_climber_climb.l0]
          rw [if_neg Bool.false_ne_true, impl_next ops hn t a, if_pos hx, Option.bind_some]
          dsimp only
          rw [if_pos rfl, decide_eq_false hl]
        · simp only [impl_climber_climb.j1]
          rw [if_neg Bool.false_ne_true, if_pos (by rw [suf_size]; omega), suf_next t a hlt]
          unfold deep put
          by_cases hr : (rd_T128 ops (nx ops t a : Int)).f2 = true
          · rw [if_pos hr, if_pos hr]
          · rw [if_neg hr, if_neg hr]
      have stepS : ∀ r, Ev (fun k => (spec_l13Climb_climb.f k ops t ((a + 1 : Nat) : Int) false (deep ops t a)).bind fun x => (if x.2.2.2 = true then (some ((⟨#[]⟩ : ByteArray), x.2.1, x.2.2.1, x.2.2.2)) else (if 1 + s.size ≤ 9223372036854775807 then (if ((⟨#[40]⟩ : ByteArray) ++ s).size + (sgn ops t a).size ≤ 9223372036854775807 then (if (((⟨#[40]⟩ : ByteArray) ++ s) ++ (sgn ops t a)).size + x.1.size ≤ 9223372036854775807 then (if ((((⟨#[40]⟩ : ByteArray) ++ s) ++ (sgn ops t a)) ++ x.1).size + 1 ≤ 9223372036854775807 then (spec_l13Climb_climb.l0 k least (put s (sgn ops t a) x.1) ops x.2.1 x.2.2.1 x.2.2.2) else (none)) else (none)) else (none)) else (none)))) r → Ev (fun k => spec_l13Climb_climb.l0 k least s ops t (a : Int) false) r := fun r e => by
        refine Ev.step (f := fun k => (spec_l13Climb_op.f k ops t (a : Int) false).bind fun x => (if x.1 < 0 then (spec_l13Climb_climb.j1 k least s x.1 true ops x.2.1 x.2.2.1 x.2.2.2) else (if 0 ≤ x.1 then (if x.1 < (ops.length : Int) then (spec_l13Climb_climb.j1 k least s x.1 (decide (((rd_T128 ops x.1).f1) < least)) ops x.2.1 x.2.2.1 x.2.2.2) else (none)) else (none)))) (fun k => by simp only [spec_l13Climb_climb.l0]) ?_
        refine Ev.bind (spec_op ops hn hs t ht a ha) ?_
        dsimp only
        rw [hix]
        refine Ev.step (fun k => ?_) e
        rw [if_neg (by omega), if_pos (by omega), if_pos (by omega), decide_eq_false (show ¬ (rd_T128 ops (nx ops t a : Int)).f1 < least from hl)]
        simp only [spec_l13Climb_climb.j1]
        rw [if_neg Bool.false_ne_true, if_pos (by omega), if_pos (by omega), hwa]
        unfold deep put
        by_cases hr : (rd_T128 ops (nx ops t a : Int)).f2 = true
        · rw [if_pos hr, if_pos hr]; rfl
        · rw [if_neg hr, if_neg hr]; rfl
      have sz : ∀ u : ByteArray, u.size ≤ 100000 → (1 + s.size ≤ 9223372036854775807) ∧ (((⟨#[40]⟩ : ByteArray) ++ s).size + (sgn ops t a).size ≤ 9223372036854775807) ∧ ((((⟨#[40]⟩ : ByteArray) ++ s) ++ (sgn ops t a)).size + u.size ≤ 9223372036854775807) ∧ (((((⟨#[40]⟩ : ByteArray) ++ s) ++ (sgn ops t a)) ++ u).size + 1 ≤ 9223372036854775807) := fun u hu => by
        have h1 : (⟨#[40]⟩ : ByteArray).size = 1 := rfl
        simp only [ByteArray.size_append]
        omega
      rcases IH (deep ops t a) (by omega) with ⟨o, b, gi, gs, g1, g2, g3⟩ | ⟨⟨o, u, bi, bo⟩, o2, z, bs⟩
      · obtain ⟨z1, z2, z3, z4⟩ := sz o (by omega)
        have hps := put_size s (sgn ops t a) o
        have eI : ∀ r, Ev (fun k => impl_climber_climb.l0 k least (put s (sgn ops t a) o) ops (suf t b) false) r → Ev (fun k => impl_climber_climb.l0 k least s ops (suf t a) false) r := fun r e => by
          refine stepI r (Ev.bind gi (Ev.same e (fun k => ?_)))
          dsimp only
          rw [if_pos z1, if_pos z2, if_pos z3, if_pos z4]
        have eS : ∀ r, Ev (fun k => spec_l13Climb_climb.l0 k least (put s (sgn ops t a) o) ops t (b : Int) false) r → Ev (fun k => spec_l13Climb_climb.l0 k least s ops t (a : Int) false) r := fun r e => by
          refine stepS r (Ev.bind gs (Ev.same e (fun k => ?_)))
          dsimp only
          rw [if_neg Bool.false_ne_true, if_pos z1, if_pos z2, if_pos z3, if_pos z4]
        rcases IHL (put s (sgn ops t a) o) b (by omega) g2 (by omega) with ⟨p, c, pi, ps, p1, p2, p3⟩ | ⟨⟨p, v, ci, co⟩, p2, z', cs⟩
        · exact .inl ⟨p, c, eI _ pi, eS _ ps, by omega, p2, by omega⟩
        · exact .inr ⟨⟨p, v, eI _ ci, by omega⟩, p2, z', eS _ cs⟩
      · obtain ⟨z1, z2, z3, z4⟩ := sz o (by omega)
        have hps := put_size s (sgn ops t a) o
        refine .inr ⟨⟨put s (sgn ops t a) o, u, stepI _ (Ev.bind bi ?_), by omega⟩, ⟨#[]⟩, z, stepS _ (Ev.bind bs (Ev.just (fun k => if_pos rfl)))⟩
        refine Ev.done (fun k => ?_)
        dsimp only
        rw [if_pos z1, if_pos z2, if_pos z3, if_pos z4]
        simp only [impl_climber_climb.l0]
        rw [if_pos trivial]
  · have hix : ix ops t a = -1 := if_neg hx
    refine .inl ⟨s, a, ?_, ?_, by omega, ha, by omega⟩
    · refine Ev.step (f := fun k => impl_climber_climb.j1 k least s true ops (suf t a) false (⟨#[]⟩ : ByteArray) 0 false) (fun k => ?_) (Ev.done (fun k => ?_))
      · simp only [impl_climber_climb.l0]
        rw [if_neg Bool.false_ne_true, impl_next ops hn t a, if_neg hx, Option.bind_some]
        dsimp only
        rw [if_neg Bool.false_ne_true]
      · simp only [impl_climber_climb.j1]
        rw [if_pos trivial]
    · refine Ev.step (f := fun k => (spec_l13Climb_op.f k ops t (a : Int) false).bind fun x => (if x.1 < 0 then (spec_l13Climb_climb.j1 k least s x.1 true ops x.2.1 x.2.2.1 x.2.2.2) else (if 0 ≤ x.1 then (if x.1 < (ops.length : Int) then (spec_l13Climb_climb.j1 k least s x.1 (decide (((rd_T128 ops x.1).f1) < least)) ops x.2.1 x.2.2.1 x.2.2.2) else (none)) else (none)))) (fun k => by simp only [spec_l13Climb_climb.l0]) ?_
      refine Ev.bind (spec_op ops hn hs t ht a ha) ?_
      dsimp only
      rw [hix]
      refine Ev.done (fun k => ?_)
      rw [if_pos (by omega)]
      simp only [spec_l13Climb_climb.j1]
      rw [if_pos trivial]

theorem spec_op_bad (z : Int) : Ev (fun k => spec_l13Climb_op.f k ops t z true) (-1, t, z, true) := by
  unfold spec_l13Climb_op.f
  refine Ev.step (f := fun k => spec_l13Climb_op.j1 k 0 false ops t z true) (fun k => ?_) (Ev.done (fun k => ?_))
  · simp only [spec_l13Climb_op.l0]
    by_cases h : (0 : Int) < (ops.length : Int)
    · rw [if_pos h, if_pos trivial]
    · rw [if_neg h]
  · simp only [spec_l13Climb_op.j1]
    rw [if_neg Bool.false_ne_true]

theorem climb_ok (least : Int) (a : Nat) (ha : a ≤ t.size) (hsz : t.size ≤ 12) (hF : (∃ o b, GoodF ops t a o b) ∨ BadF ops t a)
    (hL : ∀ (s : ByteArray) (b : Nat), a < b → b ≤ t.size → s.size + 3 * (t.size - b) ≤ 100000 → (∃ o c, GoodL ops t least s b o c) ∨ BadL ops t least s b) : (∃ o b, Good ops t least a o b) ∨ Bad ops t least a := by
  have eI : ∀ r, Ev (fun k => (impl_climber_first.f (impl_climber_climb.f k) k ops (suf t a) false).bind fun x => impl_climber_climb.l0 k least x.1 ops x.2.1 x.2.2) r → Ev (fun k => impl_climber_climb.f k ops (suf t a) false least) r := fun r e => Ev.step (fun k => by simp only [impl_climber_climb.f]) e
  have eS : ∀ r, Ev (fun k => (spec_l13Climb_atom.f (spec_l13Climb_climb.f k) k ops t (a : Int) false).bind fun x => spec_l13Climb_climb.l0 k least x.1 ops x.2.1 x.2.2.1 x.2.2.2) r → Ev (fun k => spec_l13Climb_climb.f k ops t (a : Int) false least) r := fun r e => Ev.step (fun k => by simp only [spec_l13Climb_climb.f]) e
  rcases hF with ⟨o, b, gi, gs, g1, g2, g3⟩ | ⟨⟨o, s, bi, bo⟩, o2, z, bs⟩
  · rcases hL o b g1 g2 (by omega) with ⟨p, c, pi, ps, p1, p2, p3⟩ | ⟨⟨p, v, ci, co⟩, p2, z', cs⟩
    · exact .inl ⟨p, c, eI _ (Ev.bind gi pi), eS _ (Ev.bind gs ps), by omega, p2, by omega⟩
    · exact .inr ⟨⟨p, v, eI _ (Ev.bind gi ci), by omega⟩, p2, z', eS _ (Ev.bind gs cs)⟩
  · refine .inr ⟨⟨o, s, eI _ (Ev.bind bi (Ev.done (fun k => ?_))), bo⟩, o2, z, eS _ (Ev.bind bs ?_)⟩
    · simp only [impl_climber_climb.l0]
      rw [if_pos trivial]
    · refine Ev.step (f := fun k => (spec_l13Climb_op.f k ops t z true).bind fun x => (if x.1 < 0 then (spec_l13Climb_climb.j1 k least o2 x.1 true ops x.2.1 x.2.2.1 x.2.2.2) else (if 0 ≤ x.1 then (if x.1 < (ops.length : Int) then (spec_l13Climb_climb.j1 k least o2 x.1 (decide (((rd_T128 ops x.1).f1) < least)) ops x.2.1 x.2.2.1 x.2.2.2) else (none)) else (none)))) (fun k => by simp only [spec_l13Climb_climb.l0]) ?_
      refine Ev.bind (spec_op_bad ops t z) ?_
      dsimp only
      refine Ev.done (fun k => ?_)
      rw [if_pos (by omega)]
      simp only [spec_l13Climb_climb.j1]
      rw [if_pos trivial]

def All (a : Nat) : Prop := (∀ least, (∃ o b, Good ops t least a o b) ∨ Bad ops t least a) ∧ (∀ (least : Int) (s : ByteArray), s.size + 3 * (t.size - a) ≤ 100000 → (∃ o b, GoodL ops t least s a o b) ∨ BadL ops t least s a)
include hn hs ht in
theorem all_step (a : Nat) (ha : a ≤ t.size) (IH : ∀ b, a < b → b ≤ t.size → All ops t b) : All ops t a :=
  ⟨fun least => climb_ok ops t least a ha ht (first_ok ops t ht a ha (fun h => (IH (a + 1) (by omega) h).1 0)) (fun s b h1 h2 h3 => (IH b h1 h2).2 least s h3),
    fun least s hsz => loop_ok ops hn hs t ht least s a ha hsz (fun l h => (IH (a + 1) (by omega) h).1 l) (fun u b h1 h2 h3 => (IH b h1 h2).2 least u h3)⟩
include hn hs ht in
theorem all_ok (n : Nat) : ∀ a : Nat, a ≤ t.size → t.size - a ≤ n → All ops t a := by
  induction n with
  | zero => intro a ha h; exact all_step ops hn hs t ht a ha (fun b h1 h2 => by omega)
  | succ n ih => intro a ha h; exact all_step ops hn hs t ht a ha (fun b h1 h2 => ih b h2 (by omega))

theorem sign_one (s : ByteArray) (h : signIn s = true) : s.size = 1 := by
  by_cases h1 : s.size = 1
  · exact h1
  · have := sign_impl s
    rw [if_neg (by omega), h] at this
    exact absurd this (by simp)
theorem model_signs (l : List S128) (h : model l = true) : ∀ o ∈ l, o.f0.size = 1 := by
  intro o ho
  obtain ⟨i, hi, rfl⟩ := List.mem_iff_getElem.1 ho
  unfold model at h
  simp only [Bool.and_eq_true] at h
  have h1 := (allUp_iff (okAt l) l.length 0).1 h.1 i (Nat.zero_le _) (by omega)
  unfold okAt at h1
  simp only [Bool.and_eq_true] at h1
  have h2 := h1.1
  unfold headOk at h2
  simp only [Bool.and_eq_true] at h2
  have e : l.getD i z128 = l[i] := by rw [List.getD_eq_getElem?_getD, List.getElem?_eq_getElem hi, Option.getD_some]
  rw [e] at h2
  exact sign_one _ h2.1

include hn in
theorem climbs : ∃ r : ByteArray × Bool, Ev (fun k => impl_Climb.f k ops t) r ∧ Ev (fun k => spec_Climb.f k ops t) r := by
  have oi := impl_all ops hn
  have os := spec_all ops hn
  have sI : ∀ r, Ev (fun k => impl_Climb.j0 k ops t (if model ops = true then decide ((t.size : Int) > 12) else true)) r → Ev (fun k => impl_Climb.f k ops t) r := fun r e => by
    unfold impl_Climb.f
    refine Ev.bind oi (Ev.same e (fun k => ?_))
    by_cases h : model ops = true
    · rw [if_pos h, if_pos h]
    · rw [if_neg h, if_neg h]
  have sS : ∀ r, Ev (fun k => spec_Climb.j0 k t (if model ops = true then decide ((t.size : Int) > 12) else true) ops t 0 false) r → Ev (fun k => spec_Climb.f k ops t) r := fun r e => by
    unfold spec_Climb.f
    refine Ev.bind os (Ev.same e (fun k => ?_))
    by_cases h : model ops = true
    · rw [if_pos h, if_pos h]
    · rw [if_neg h, if_neg h]
  by_cases hc : model ops = true ∧ t.size ≤ 12
  · have hb : (if model ops = true then decide ((t.size : Int) > 12) else true) = false := by rw [if_pos hc.1]; exact decide_eq_false (by omega)
    rw [hb] at sI sS
    have tI : ∀ r, Ev (fun k => (impl_climber_climb.f k ops t false 0).bind fun x => (if x.2.2 = true then (some ((⟨#[]⟩ : ByteArray), false)) else (if x.2.1.toList = ([] : List UInt8) then (some (x.1, true)) else (some ((⟨#[]⟩ : ByteArray), false))))) r → Ev (fun k => impl_Climb.f k ops t) r := fun r e => sI r (Ev.step (fun k => by simp only [impl_Climb.j0]; rw [if_neg Bool.false_ne_true]) e)
    have tS : ∀ r, Ev (fun k => (spec_l13Climb_climb.f k ops t 0 false 0).bind fun x => (if x.2.2.2 = true then (some ((⟨#[]⟩ : ByteArray), false)) else (if x.2.2.1 < (t.size : Int) then (some ((⟨#[]⟩ : ByteArray), false)) else (some (x.1, true))))) r → Ev (fun k => spec_Climb.f k ops t) r := fun r e => sS r (Ev.step (fun k => by simp only [spec_Climb.j0]; rw [if_neg Bool.false_ne_true]) e)
    have z0 : ((0 : Nat) : Int) = 0 := rfl
    rcases (all_ok ops hn (model_signs ops hc.1) t hc.2 t.size 0 (Nat.zero_le _) (by omega)).1 0 with ⟨o, b, gi, gs, g1, g2, g3⟩ | ⟨⟨o, s, bi, bo⟩, o2, z, bs⟩
    · rw [suf_zero] at gi
      by_cases he : b = t.size
      · refine ⟨(o, true), tI _ (Ev.bind gi (Ev.just (fun k => ?_))), tS _ (Ev.bind gs (Ev.just (fun k => ?_)))⟩
        · dsimp only
          rw [if_neg Bool.false_ne_true, if_pos (suf_nil t b he)]
        · dsimp only
          rw [if_neg Bool.false_ne_true, if_neg (by omega)]
      · refine ⟨((⟨#[]⟩ : ByteArray), false), tI _ (Ev.bind gi (Ev.just (fun k => ?_))), tS _ (Ev.bind gs (Ev.just (fun k => ?_)))⟩
        · dsimp only
          rw [if_neg Bool.false_ne_true, if_neg (suf_cons t b (by omega))]
        · dsimp only
          rw [if_neg Bool.false_ne_true, if_pos (by omega)]
    · rw [suf_zero] at bi
      exact ⟨((⟨#[]⟩ : ByteArray), false), tI _ (Ev.bind bi (Ev.just (fun k => if_pos rfl))), tS _ (Ev.bind bs (Ev.just (fun k => if_pos rfl)))⟩
  · have hb : (if model ops = true then decide ((t.size : Int) > 12) else true) = true := by
      by_cases h : model ops = true
      · rw [if_pos h]; exact decide_eq_true (by have : ¬ t.size ≤ 12 := fun q => hc ⟨h, q⟩; omega)
      · rw [if_neg h]
    rw [hb] at sI sS
    exact ⟨((⟨#[]⟩ : ByteArray), false), sI _ (Ev.done (fun k => by simp only [impl_Climb.j0]; rw [if_pos trivial])), sS _ (Ev.done (fun k => by simp only [spec_Climb.j0]; rw [if_pos trivial]))⟩
end Go.Proofs.Ytlkbdoejeomlmaa.MFnExactClimb
