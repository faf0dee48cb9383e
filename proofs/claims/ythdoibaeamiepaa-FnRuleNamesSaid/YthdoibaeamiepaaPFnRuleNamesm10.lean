/- Printed walks of the functions of FnRuleNames, in few texts. No condition. -/
import Derived.Test.YthdoibaeamiepaaPFnRuleNamesm0
import Derived.Test.YthdoibaeamiepaaY
import Derived.Test.YthdoibaeamiepaaPFnRuleNamesm2
import Derived.Test.YthdoibaeamiepaaPFnRuleNamesm4
import Derived.Test.YthdoibaeamiepaaPFnRuleNamesm9
set_option maxHeartbeats 8000000
set_option maxRecDepth 100000
namespace Go.Proofs.Ythdoibaeamiepaa.PFnRuleNames
open Go.RowKit Go.Proofs.YthdoibaeamiepaaW.PrintWords Go.Proofs.YthdoibaeamiepaaW.PrintLast Go.Proofs.YthdoibaeamiepaaW.PrintMore
attribute [local go_sem] max2_int min2_int max_two min_two max_three min_three max_four min_four
set_option linter.unusedVariables false
set_option linter.unusedSimpArgs false
theorem infExN : (Try.prog.info? 92).map (fun i => (i.zero, i.size, i.bytes)) = some (some (.agg #[(.int .i64 0), (.int .i64 0), (.string ⟨#[]⟩), (.slice none 0 0)]), 4, 56) := by kernel_rfl
theorem infExp : (Try.prog.info? 69).map (fun i => (i.zero, i.size, i.bytes)) = some (some (.agg #[(.slice none 0 0)]), 1, 24) := by kernel_rfl
theorem infInt : (Try.prog.info? 3).map (fun i => (i.zero, i.size, i.bytes)) = some (some (.int .i64 0), 1, 8) := by kernel_rfl
structure Ps where
 at_ : Int
 deep : Int
 bad : Bool
def rIs (toks : List S84) (p : Ps) (s : ByteArray) : Bool := !p.bad && (decide (p.at_ < (toks.length : Int)) && (((rd_T84 toks p.at_).f0 == 5) && ((rd_T84 toks p.at_).f1.toList == s.toList)))
def rSign (toks : List S84) (p : Ps) (s : ByteArray) : Bool × Ps := if rIs toks p s = true then (true, ⟨p.at_ + 1, p.deep, p.bad⟩) else (false, p)
def rWant (toks : List S84) (p : Ps) (s : ByteArray) : Ps := if rIs toks p s = true then ⟨p.at_ + 1, p.deep, p.bad⟩ else ⟨p.at_, p.deep, true⟩
def rKind (toks : List S84) (p : Ps) (k : Int) : ByteArray × Bool × Ps := if p.bad = true then (⟨#[]⟩, false, p) else if p.at_ ≥ (toks.length : Int) then (⟨#[]⟩, false, p) else if (rd_T84 toks p.at_).f0 = k then ((rd_T84 toks p.at_).f1, true, ⟨p.at_ + 1, p.deep, p.bad⟩) else (⟨#[]⟩, false, p)
def rDown (p : Ps) : Ps := if wrap64 (p.deep + 1) > 20 then ⟨p.at_, wrap64 (p.deep + 1), true⟩ else ⟨p.at_, wrap64 (p.deep + 1), p.bad⟩
def rUp (p : Ps) : Ps := ⟨p.at_, wrap64 (p.deep - 1), p.bad⟩
structure Ex (w0 w : World) (g go : Nat) (toks : List S84) (p : Ps) (v ve : Value) (es : List S92) (ok : Nat → Prop) : Prop where
 inn : IsS78 w0 w g toks p.at_ p.deep p.bad v
 pos : 0 ≤ p.at_
 bel : Below w0.heap.size w0 w
 goB : w0.heap.size ≤ go
 cell : w.heap[go]? = some (.cells #[ve] 67 (0, 0))
 row : Kd.R k92 92 w w0.heap.size ok ve es
structure Fr (w w' : World) (g go : Nat) (v v' : Value) : Prop where
 size : w.heap.size ≤ w'.heap.size
 same : ∀ i, i < w.heap.size → i ≠ g → i ≠ go → v.ownBlock ≠ some i → w'.heap[i]? = w.heap[i]?
 at_ : v'.ownBlock = v.ownBlock ∨ ∃ q, v'.ownBlock = some q ∧ w.heap.size ≤ q
theorem Fr.refl (w : World) (g go : Nat) (v : Value) : Fr w w g go v v := ⟨Nat.le_refl _, fun _ _ _ _ _ => rfl, .inl rfl⟩
theorem Fr.trans {w w1 w2 : World} {g go : Nat} {v v1 v2 : Value} (h : Fr w w1 g go v v1) (k : Fr w1 w2 g go v1 v2) : Fr w w2 g go v v2 := by
 refine ⟨Nat.le_trans h.size k.size, fun i hi hg hgo hv => (k.same i (Nat.lt_of_lt_of_le hi h.size) hg hgo ?_).trans (h.same i hi hg hgo hv), ?_⟩
 ·rcases h.at_ with e | ⟨q, e, hq⟩
  ·rw [e]; exact hv
  ·rw [e]; intro e2; have := Option.some.inj e2; omega
 ·rcases k.at_ with e | ⟨q, e, hq⟩
  ·rw [e]; exact h.at_
  ·exact .inr ⟨q, e, Nat.le_trans h.size hq⟩
theorem Fr.of_keep {w w' : World} {g : Nat} (h : KeepBut w w' g none) (go : Nat) (v : Value) : Fr w w' g go v v := ⟨h.1, fun i hi hg _ _ => h.2 i hi hg (by simp), .inl rfl⟩
section
variable {w0 w w' : World} {g go : Nat} {toks : List S84} {p p' : Ps} {v ve : Value} {es : List S92} {ok ok' : Nat → Prop}
theorem Ex.ne (h : Ex w0 w g go toks p v ve es ok) : g ≠ go := h.inn.ne_blk h.cell (by decide)
theorem Ex.rowne (h : Ex w0 w g go toks p v ve es ok) : Kd.R k92 92 w w0.heap.size (fun k => (ok k ∧ k ≠ g) ∧ k ≠ go) ve es :=
 Kd.R_types (h.inn.apart h.row (by decide)) h.cell (by decide)
theorem Ex.own (h : Ex w0 w g go toks p v ve es ok) : (some go ≠ ve.ownBlock) ∧ (some g ≠ ve.ownBlock) ∧ ∀ k, ve.ownBlock = some k → ok k ∧ w0.heap.size ≤ k ∧ k < w.heap.size := by
 have ho := (Kd.R_bound h.rowne).1; exact ⟨fun e => (ho go e.symm).1.2 rfl, fun e => (ho g e.symm).1.1.2 rfl, fun k hk => ⟨(ho k hk).1.1.1, (ho k hk).2.1, (ho k hk).2.2.1⟩⟩
theorem Ex.keep (h : Ex w0 w g go toks p v ve es ok) (hk : KeepBut w w' g none) (hI : IsS78 w0 w' g toks p'.at_ p'.deep p'.bad v) (hp : 0 ≤ p'.at_) (hB : Below w0.heap.size w0 w') : Ex w0 w' g go toks p' v ve es ok :=
 ⟨hI, hp, hB, h.goB, (hk.2 go (blk_lt h.cell) h.ne.symm (by simp)).trans h.cell, Kd.R_mono (Kd.R_keep h.rowne hk (fun k hk => hk.1.2)) (fun k hk => hk.1.1)⟩
theorem Ex.below (h : Ex w0 w g go toks p v ve es ok) (hb : Below w.heap.size w w') : Ex w0 w' g go toks p v ve es ok :=
 ⟨h.inn.below hb, h.pos, h.bel.trans (hb.mono h.bel.size), h.goB, (hb.block go (blk_lt h.cell)).trans h.cell, Kd.R_below h.row hb⟩
theorem Ex.alloc (h : Ex w0 w g go toks p v ve es ok) (o : Obj) : Ex w0 (w.alloc o) g go toks p v ve es ok := h.below (below_alloc (Below.refl _ _) o)
theorem Ex.drew (h : Ex w0 w g go toks p v ve es ok) : Ex w0 w.drew g go toks p v ve es ok := h.below (below_drew (Below.refl _ _))
theorem Fr.below (hb : Below w.heap.size w w') : Fr w w' g go v v := ⟨hb.size, fun i hi _ _ _ => hb.block i hi, .inl rfl⟩
end
theorem Ex.append {w0 w w3 : World} {g go : Nat} {toks : List S84} {p : Ps} {v ve v2 : Value} {es es2 : List S92} {ok1 ok : Nat → Prop} (h : Ex w0 w g go toks p v ve es ok1) (hg : w.grownBy w3 ve.ownBlock) (hb : Below w0.heap.size w w3) (row : Kd.R k92 92 w3 w0.heap.size ok v2 es2) : Ex w0 (w3.setCell ⟨go, 0, none⟩ v2) g go toks p v v2 es2 ok := by
 obtain ⟨o1, o2, o3⟩ := h.own; have hc3 := blk_grown h.cell hg o1; refine ⟨(h.inn.grown hg o2).far h.ne v2, h.pos, below_set (h.bel.trans hb) h.goB, h.goB, blk_put hc3 0 v2 rfl, ?_⟩; exact Kd.R_mono (Kd.R_far (p := ⟨go, 0, none⟩) (Kd.R_types row hc3 (by decide)) (fun k hk => hk.2) v2) (fun k hk => hk.1)
theorem Fr.append {w w3 : World} {g go : Nat} {v v2 : Value} (hg : w.grownBy w3 v.ownBlock) (hat : v2.ownBlock = v.ownBlock ∨ ∃ b, v2.ownBlock = some b ∧ w.heap.size ≤ b) : Fr w (w3.setCell ⟨go, 0, none⟩ v2) g go v v2 := by
 have hh : ∀ i, i ≠ go → (w3.setCell ⟨go, 0, none⟩ v2).heap[i]? = w3.heap[i]? := fun i hi => Below.heap_setCell w3 ⟨go, 0, none⟩ v2 i hi
 exact ⟨by simpa [World.setCell] using hg.size, fun i hi hg2 hgo hv => (hh i hgo).trans (hg.block i hi (fun e => hv e.symm)), hat⟩
theorem l11Put_calls (w0 w : World) (g go : Nat) (toks : List S84) (p : Ps) (v ve : Value) (es : List S92) (ok : Nat → Prop) (hok : ∀ q, w.heap.size ≤ q → ok q) (hE : Ex w0 w g go toks p v ve es ok)
  (op num : Int) (name : ByteArray) (kv : Value) (kids : List Int) (hK : Kd.R (Kd.int .i64) 3 w w0.heap.size ok kv kids) (hl : es.length < 2513169434916) :
  Calls Try.prog 85 #[.pointer (some ⟨go, 0, none⟩), .agg #[.int .i64 op, .int .i64 num, .string name, kv]] w fun e w' => e = .returned (.int .i64 (es.length : Int)) ∧ ∃ ve', Ex w0 w' g go toks p v ve' (es ++ [⟨op, num, name, kids⟩]) ok ∧ Fr w w' g go ve ve' := by
 have HE := am hE; have HK := am hK; have HO := am hok; have HLim := am hl; clear hE hK hok hl; have hgo0 : w.cell? ⟨go, 0, none⟩ = some ve := (blk_cell HE.out.cell 0).trans rfl; go_enter Try.func85, Try.ntmps85; go_wp2; have hE1 := HE.out.alloc (.cells #[.int .i64 op, .int .i64 num, .string name, kv] 92); have hF1 : Fr w (w.alloc (.cells #[.int .i64 op, .int .i64 num, .string name, kv] 92)) g go ve ve := Fr.below (below_alloc (Below.refl _ _) _); have hK1 := Kd.R_alloc HK.out (.cells #[.int .i64 op, .int .i64 num, .string name, kv] 92); have hX : (w.alloc (.cells #[.int .i64 op, .int .i64 num, .string name, kv] 92)).heap[w.heap.size]? = some (.cells #[.int .i64 op, .int .i64 num, .string name, kv] 92 (0, 0)) := by simpa using heap_alloc_new w (.cells #[.int .i64 op, .int .i64 num, .string name, kv] 92)
 have hO1 : ∀ q, (w.alloc (.cells #[.int .i64 op, .int .i64 num, .string name, kv] 92)).heap.size ≤ q → ok q := fun q hq => HO.out q (Nat.le_trans hF1.size hq)
 clear hgo0 HE HK HO; generalize w.heap.size = gx at *; generalize w.alloc (.cells #[.int .i64 op, .int .i64 num, .string name, kv] 92) = w1 at *; have HE1 := am hE1; have HF1 := am hF1; have hKt := Kd.R_tight rfl hK1
 have hne : ∀ q, some q = kv.ownBlock → ok q ∧ some q ≠ ve.ownBlock := by
  intro q hq; refine ⟨hK1.1 q hq.symm, fun e => ?_⟩; obtain ⟨_, _, _, p, hp, cs, hc⟩ := (Kd.R_bound hK1).1 q hq.symm; exact Kd.R_ne HE1.out.row hc (by intro h; subst h; revert hp; decide) e
 have HNE := am hne; have HO1 := am hO1; have HKt := am hKt; have hxx0 : w1.cell? ⟨gx, 0, none⟩ = some (.int .i64 op) := (blk_cell hX 0).trans rfl; have hxx1 : w1.cell? ⟨gx, 1, none⟩ = some (.int .i64 num) := (blk_cell hX 1).trans rfl; have hxx2 : w1.cell? ⟨gx, 2, none⟩ = some (.string name) := (blk_cell hX 2).trans rfl; have hxx3 : w1.cell? ⟨gx, 3, none⟩ = some kv := (blk_cell hX 3).trans rfl; have hgo0 : w1.cell? ⟨go, 0, none⟩ = some ve := (blk_cell HE1.out.cell 0).trans rfl; have hgo1 : ∀ o, (w1.alloc o).cell? ⟨go, 0, none⟩ = some ve := fun o => (blk_cell (blk_alloc HE1.out.cell o) 0).trans rfl
 have HSZ1 := am HE1.out.bel.size; clear hE1 hF1 hK1 hKt hne hO1 hX; go_region_law (refine Kd.R_append_step (W := w1.drew) (w0 := w1.drew) k92 w0.heap.size ?aW (.tmp 8) (.tmp 10) 67 92 (.agg #[(.int .i64 0), (.int .i64 0), (.string ⟨#[]⟩), (.slice none 0 0)]) 56 ?aH Try.underlying67 infExN rfl (by decide) (by decide) ve es ⟨op, num, name, kids⟩ [.int .i64 op, .int .i64 num, .string name, kv] ok (fun q => some q = kv.ownBlock) ?a1 ?a2 ?aP ?aK ?aF ?aO ?aB ?aS ?aL ?_; (case aW => rfl); (case aH => rfl); (case a1 => rfl); (case a2 => rfl); (case aP => exact k92_mkM _ _ _ _ HKt.out); (case aK => exact HNE.out); (case aF => exact HO1.out); (case aO => exact HE1.out.row); (case aB => exact Below.refl _ _); (case aS => exact HSZ1.out); (case aL => (have := HLim.out; omega)); intro v2 w3 ho hb hg hat; obtain ⟨Ao, co, eo⟩ := Kd.R_slice ho; subst eo; have hbgo := blk_grown (show w1.drew.heap[go]? = _ from HE1.out.cell) hg HE1.out.own.1; have hzc : w3.cell? ⟨go, 0, none⟩ = some ve := (blk_cell hbgo 0).trans rfl; have hzf := blk_frozen hbgo 0; have HO5 := am ho; have HB5 := am hb; have HG5 := am hg; have HAT := am hat; clear ho hb hg hat hbgo)
 all_goals (
  refine (‹∀ (a : Act) (w : World), Code.wp Try.prog _ _ a w → _›) _ _ ?_; have hl : (es ++ [(⟨op, num, name, kids⟩ : S92)]).length = es.length + 1 := by simp
  rw [hl] at HO5 HAT; have hE7 := HE1.out.drew.append HG5.out HB5.out HO5.out; have hF7 := HF1.out.trans (Fr.append (w := w1) (g := g) (go := go) (v := ve) ⟨HG5.out.1, HG5.out.2, HG5.out.3, HG5.out.4, HG5.out.5⟩ HAT.out); have hcz := (blk_cell hE7.cell 0).trans (show _ = some (Value.slice Ao (es.length + 1) co) from rfl); have HE7 := am hE7; have HF7 := am hF7; clear hE7 hF7 HO5 HB5 HG5 HAT HE1 HF1; go_wp2; go_ret; have hw : wrap64 ((es.length : Nat) : Int) = (es.length : Int) := by have := HLim.out; unfold wrap64; omega
  exact ⟨by simp [hw], _, HE7.out, HF7.out⟩)
theorem is_eq (toks : List S84) (p : Ps) (v : Value) (s : ByteArray) (h0 : 0 ≤ p.at_) : spec_l11Read_is.f toks p.at_ p.deep p.bad v s = some (rIs toks p s, p.at_, p.deep, p.bad, v) := by
 unfold spec_l11Read_is.f rIs; by_cases h1 : p.bad = true
 ·rw [if_pos h1]; simp [h1]
 ·rw [if_neg h1]; by_cases h2 : p.at_ < (toks.length : Int)
  ·rw [if_pos h2, if_pos h0]; by_cases h3 : (rd_T84 toks p.at_).f0 = 5
   ·rw [if_pos h3]; simp [h1, h2, h3]
   ·rw [if_neg h3]; simp [h1, h2, h3]
  ·rw [if_neg h2]; simp [h1, h2]
theorem sign_eq (toks : List S84) (p : Ps) (v : Value) (s : ByteArray) (h0 : 0 ≤ p.at_) (hm : toks.length ≤ 9223372036854775807) : spec_l11Read_sign.f toks p.at_ p.deep p.bad v s = some ((rSign toks p s).1, (rSign toks p s).2.at_, (rSign toks p s).2.deep, (rSign toks p s).2.bad, v) := by
 unfold spec_l11Read_sign.f; rw [is_eq toks p v s h0, Option.bind_some]; unfold rSign; by_cases h : rIs toks p s = true
 ·have hlt : p.at_ < (toks.length : Int) := by
   unfold rIs at h; simp only [Bool.and_eq_true, decide_eq_true_eq] at h; exact h.2.1
  rw [if_pos h, if_pos h]; have hw : wrap64 (p.at_ + 1) = p.at_ + 1 := IntWalk.wrap64_in _ ⟨by omega, by omega⟩; simp only [hw]
 ·rw [if_neg h, if_neg h]
theorem want_eq (toks : List S84) (p : Ps) (v : Value) (s : ByteArray) (h0 : 0 ≤ p.at_) (hm : toks.length ≤ 9223372036854775807) : spec_l11Read_want.f toks p.at_ p.deep p.bad v s = some ((rWant toks p s).at_, (rWant toks p s).deep, (rWant toks p s).bad, v) := by
 unfold spec_l11Read_want.f; rw [sign_eq toks p v s h0 hm, Option.bind_some]; unfold rWant rSign; by_cases h : rIs toks p s = true
 ·simp only [if_pos h, if_true]
 ·simp only [if_neg h, Bool.false_eq_true, if_false]
theorem kind_eq (toks : List S84) (p : Ps) (v : Value) (k : Int) (h0 : 0 ≤ p.at_) (hm : toks.length ≤ 9223372036854775807) : spec_l11Read_kind.f toks p.at_ p.deep p.bad v k = some ((rKind toks p k).1, (rKind toks p k).2.1, (rKind toks p k).2.2.at_, (rKind toks p k).2.2.deep, (rKind toks p k).2.2.bad, v) := by
 unfold spec_l11Read_kind.f rKind; by_cases h1 : p.bad = true
 ·simp only [if_pos h1]
 ·simp only [if_neg h1]; by_cases h2 : p.at_ ≥ (toks.length : Int)
  ·simp only [if_pos h2]
  ·have h3 : p.at_ < (toks.length : Int) := by omega
   have hw : wrap64 (p.at_ + 1) = p.at_ + 1 := IntWalk.wrap64_in _ ⟨by omega, by omega⟩; have hw2 : wrap64 (p.at_ + 1 - 1) = p.at_ := by rw [Int.add_sub_cancel]; exact IntWalk.wrap64_in _ ⟨by omega, by omega⟩
   simp only [if_neg h2, if_pos h0, if_pos h3, hw, hw2]; by_cases h4 : (rd_T84 toks p.at_).f0 = k
   ·simp only [if_pos h4]
   ·simp only [if_neg h4]
theorem down_eq (toks : List S84) (p : Ps) (v : Value) : spec_l11Read_down.f toks p.at_ p.deep p.bad v = some ((rDown p).at_, (rDown p).deep, (rDown p).bad, v) := by
 unfold spec_l11Read_down.f rDown; split <;> rfl
theorem rSign_pos {toks : List S84} {p : Ps} {s : ByteArray} (h : 0 ≤ p.at_) : 0 ≤ (rSign toks p s).2.at_ := by unfold rSign; split <;> simp only [] <;> omega
theorem rWant_pos {toks : List S84} {p : Ps} {s : ByteArray} (h : 0 ≤ p.at_) : 0 ≤ (rWant toks p s).at_ := by unfold rWant; split <;> simp only [] <;> omega
theorem rKind_pos {toks : List S84} {p : Ps} {k : Int} (h : 0 ≤ p.at_) : 0 ≤ (rKind toks p k).2.2.at_ := by
 unfold rKind; by_cases h1 : p.bad = true
 ·rw [if_pos h1]; exact h
 ·rw [if_neg h1]; by_cases h2 : p.at_ ≥ (toks.length : Int)
  ·rw [if_pos h2]; exact h
  ·rw [if_neg h2]; split
   ·show 0 ≤ p.at_ + 1; omega
   ·exact h
theorem rDown_pos {p : Ps} (h : 0 ≤ p.at_) : 0 ≤ (rDown p).at_ := by unfold rDown; split <;> exact h
theorem inn_max {w0 w : World} {g : Nat} {toks : List S84} {a d : Int} {b : Bool} {v : Value} (h : IsS78 w0 w g toks a d b v) : toks.length ≤ 9223372036854775807 := by
 obtain ⟨_, _, _, _, hc⟩ := h; exact hc.2.1
section
variable {w0 w : World} {g go : Nat} {toks : List S84} {p : Ps} {v ve : Value} {es : List S92} {ok : Nat → Prop}
theorem Ex.sign (h : Ex w0 w g go toks p v ve es ok) (s : ByteArray) : Calls Try.prog 36 #[.pointer (some ⟨g, 0, none⟩), .string s] w fun e w' => e = .returned (.bool (rSign toks p s).1) ∧ Ex w0 w' g go toks (rSign toks p s).2 v ve es ok ∧ Fr w w' g go ve ve :=
 (spec_l11Read_sign.calls g toks _ _ _ v s _ _ _ _ _ w0 w h.inn h.bel (sign_eq toks p v s h.pos (inn_max h.inn))).mono fun e w' hh => ⟨hh.1, h.keep hh.2.2.2 hh.2.1 (rSign_pos h.pos) hh.2.2.1, Fr.of_keep hh.2.2.2 go ve⟩
theorem Ex.want (h : Ex w0 w g go toks p v ve es ok) (s : ByteArray) : Calls Try.prog 37 #[.pointer (some ⟨g, 0, none⟩), .string s] w fun e w' => e = .returned (.tuple #[]) ∧ Ex w0 w' g go toks (rWant toks p s) v ve es ok ∧ Fr w w' g go ve ve :=
 (spec_l11Read_want.calls g toks _ _ _ v s _ _ _ _ w0 w h.inn h.bel (want_eq toks p v s h.pos (inn_max h.inn))).mono fun e w' hh => ⟨hh.1, h.keep hh.2.2.2 hh.2.1 (rWant_pos h.pos) hh.2.2.1, Fr.of_keep hh.2.2.2 go ve⟩
theorem Ex.kind (h : Ex w0 w g go toks p v ve es ok) (k : Int) : Calls Try.prog 35 #[.pointer (some ⟨g, 0, none⟩), .int .i64 k] w fun e w' => e = .returned (.tuple #[.string (rKind toks p k).1, .bool (rKind toks p k).2.1]) ∧ Ex w0 w' g go toks (rKind toks p k).2.2 v ve es ok ∧ Fr w w' g go ve ve :=
 (spec_l11Read_kind.calls g toks _ _ _ v k _ _ _ _ _ _ w0 w h.inn h.bel (kind_eq toks p v k h.pos (inn_max h.inn))).mono fun e w' hh => ⟨hh.1, h.keep hh.2.2.2 hh.2.1 (rKind_pos h.pos) hh.2.2.1, Fr.of_keep hh.2.2.2 go ve⟩
theorem Ex.down (h : Ex w0 w g go toks p v ve es ok) : Calls Try.prog 47 #[.pointer (some ⟨g, 0, none⟩)] w fun e w' => e = .returned (.tuple #[]) ∧ Ex w0 w' g go toks (rDown p) v ve es ok ∧ Fr w w' g go ve ve :=
 (spec_l11Read_down.calls g toks _ _ _ v _ _ _ _ w0 w h.inn h.bel (down_eq toks p v)).mono fun e w' hh => ⟨hh.1, h.keep hh.2.2.2 hh.2.1 (rDown_pos h.pos) hh.2.2.1, Fr.of_keep hh.2.2.2 go ve⟩
theorem Ex.up (h : Ex w0 w g go toks p v ve es ok) : Calls Try.prog 49 #[.pointer (some ⟨g, 0, none⟩)] w fun e w' => e = .returned (.tuple #[]) ∧ Ex w0 w' g go toks (rUp p) v ve es ok ∧ Fr w w' g go ve ve :=
 (spec_l11Read_up.calls g toks _ _ _ v _ _ _ _ w0 w h.inn h.bel rfl).mono fun e w' hh => ⟨hh.1, h.keep (p' := rUp p) hh.2.2.2 hh.2.1 h.pos hh.2.2.1, Fr.of_keep hh.2.2.2 go ve⟩
end
def rPut (p : Ps) (es : List S92) (x : S92) : Option (Int × Ps × List S92) := if es.length < 2513169434916 then some ((es.length : Int), p, es ++ [x]) else none
def rNum : Nat → ByteArray → Int → Int → Option Int
 | 0, _, _, _ => none
 | k + 1, t, n, i => if i < (t.size : Int) then (if 0 ≤ i then rNum k t (wrap64 (wrap64 (wrap64 (10 * n) + wrap64 (bt t i)) - 48)) (wrap64 (i + 1)) else none) else some n
mutual
def rSimple : Nat → List S84 → Ps → List S92 → Option (Int × Ps × List S92)
 | 0, _, _, _ => none
 | k + 1, toks, p, es => (rSimpleOne k toks (rDown p) es).bind fun r => some (r.1, rUp r.2.1, r.2.2)
def rSimpleOne : Nat → List S84 → Ps → List S92 → Option (Int × Ps × List S92)
 | 0, _, _, _ => none
 | k + 1, toks, p, es => if rIs toks p ⟨#[33]⟩ = true then ((rSimple k toks (rSign toks p ⟨#[33]⟩).2 es).bind fun r => rPut r.2.1 r.2.2 ⟨11, 0, ⟨#[]⟩, [r.1]⟩)
  else if rIs toks p ⟨#[64]⟩ = true then rPut (rSign toks p ⟨#[64]⟩).2 es ⟨3, 0, ⟨#[]⟩, []⟩
  else if rIs toks p ⟨#[40]⟩ = true then ((rExpr k toks (rSign toks p ⟨#[40]⟩).2 es).bind fun r => some (r.1, rWant toks r.2.1 ⟨#[41]⟩, r.2.2))
  else if (rKind toks p 2).2.1 = true then ((rNum k (rKind toks p 2).1 0 0).bind fun n => rPut (rKind toks p 2).2.2 es ⟨1, n, ⟨#[]⟩, []⟩)
  else rPut (if (rKind toks p 1).2.1 = true then (rKind toks p 1).2.2 else ⟨(rKind toks p 1).2.2.at_, (rKind toks p 1).2.2.deep, true⟩) es ⟨2, 0, (rKind toks p 1).1, []⟩
def rProduct : Nat → List S84 → Ps → List S92 → Option (Int × Ps × List S92)
 | 0, _, _, _ => none
 | k + 1, toks, p, es => (rSimple k toks p es).bind fun r => rProductL k toks r.1 r.2.1 r.2.2
def rProductL : Nat → List S84 → Int → Ps → List S92 → Option (Int × Ps × List S92)
 | 0, _, _, _, _ => none
 | k + 1, toks, q, p, es => if p.bad = true then some (q, p, es)
  else if rIs toks p ⟨#[42]⟩ = true then ((rSimple k toks (rSign toks p ⟨#[42]⟩).2 es).bind fun r => (rPut r.2.1 r.2.2 ⟨6, 0, ⟨#[]⟩, [q, r.1]⟩).bind fun r => rProductL k toks r.1 r.2.1 r.2.2)
  else if rIs toks p ⟨#[47]⟩ = true then ((rSimple k toks (rSign toks p ⟨#[47]⟩).2 es).bind fun r => (rPut r.2.1 r.2.2 ⟨7, 0, ⟨#[]⟩, [q, r.1]⟩).bind fun r => rProductL k toks r.1 r.2.1 r.2.2)
  else some (q, p, es)
def rSum : Nat → List S84 → Ps → List S92 → Option (Int × Ps × List S92)
 | 0, _, _, _ => none
 | k + 1, toks, p, es => (rProduct k toks p es).bind fun r => rSumL k toks r.1 r.2.1 r.2.2
def rSumL : Nat → List S84 → Int → Ps → List S92 → Option (Int × Ps × List S92)
 | 0, _, _, _, _ => none
 | k + 1, toks, q, p, es => if p.bad = true then some (q, p, es)
  else if rIs toks p ⟨#[43]⟩ = true then ((rProduct k toks (rSign toks p ⟨#[43]⟩).2 es).bind fun r => (rPut r.2.1 r.2.2 ⟨4, 0, ⟨#[]⟩, [q, r.1]⟩).bind fun r => rSumL k toks r.1 r.2.1 r.2.2)
  else if rIs toks p ⟨#[45]⟩ = true then ((rProduct k toks (rSign toks p ⟨#[45]⟩).2 es).bind fun r => (rPut r.2.1 r.2.2 ⟨5, 0, ⟨#[]⟩, [q, r.1]⟩).bind fun r => rSumL k toks r.1 r.2.1 r.2.2)
  else some (q, p, es)
def rCompare : Nat → List S84 → Ps → List S92 → Option (Int × Ps × List S92)
 | 0, _, _, _ => none
 | k + 1, toks, p, es => (rSum k toks p es).bind fun a =>
  if rIs toks a.2.1 ⟨#[60]⟩ = true then ((rSum k toks (rSign toks a.2.1 ⟨#[60]⟩).2 a.2.2).bind fun r => rPut r.2.1 r.2.2 ⟨8, 0, ⟨#[]⟩, [a.1, r.1]⟩)
  else if rIs toks a.2.1 ⟨#[61]⟩ = true then ((rSum k toks (rSign toks a.2.1 ⟨#[61]⟩).2 a.2.2).bind fun r => rPut r.2.1 r.2.2 ⟨9, 0, ⟨#[]⟩, [a.1, r.1]⟩)
  else some (a.1, a.2.1, a.2.2)
def rExpr : Nat → List S84 → Ps → List S92 → Option (Int × Ps × List S92)
 | 0, _, _, _ => none
 | k + 1, toks, p, es => (rCompare k toks (rDown p) es).bind fun r => rExprL k toks r.1 r.2.1 r.2.2
def rExprL : Nat → List S84 → Int → Ps → List S92 → Option (Int × Ps × List S92)
 | 0, _, _, _, _ => none
 | k + 1, toks, q, p, es => if p.bad = true then some (q, rUp p, es)
  else if rIs toks p ⟨#[38]⟩ = true then ((rCompare k toks (rSign toks p ⟨#[38]⟩).2 es).bind fun r => (rPut r.2.1 r.2.2 ⟨10, 0, ⟨#[]⟩, [q, r.1]⟩).bind fun r => rExprL k toks r.1 r.2.1 r.2.2)
  else some (q, rUp p, es)
end
theorem litR {w : World} {base : Nat} {ok : Nat → Prop} (xs : List Int) (hb : base ≤ w.heap.size) (hok : ok w.heap.size) (hl : xs.length ≤ 100) : Kd.R (Kd.int .i64) 3 (w.alloc (.cells (xs.map (Value.int .i64)).toArray 3)) base ok (.slice (some ⟨w.heap.size, 0, none⟩) xs.length xs.length) xs := by
 refine Kd.R_of_own ?_ (fun k hk => ?_)
 ·have h2 := World.ownsRow_lit (base := base) (e := 3) (size := 1) w (xs.map (Value.int .i64)).toArray xs.length hb (Nat.le_trans hl (by decide)) (by simp); simpa [encs] using h2
 ·have h2 : w.heap.size = k := by simpa [Value.ownBlock] using hk
  subst h2; exact hok
theorem two_calls (w0 w : World) (g go : Nat) (toks : List S84) (p : Ps) (v ve : Value) (es : List S92) (ok : Nat → Prop) (hok : ∀ q, w.heap.size ≤ q → ok q) (hE : Ex w0 w g go toks p v ve es ok) (op a b : Int) (r : Int × Ps × List S92) (h : rPut p es ⟨op, 0, ⟨#[]⟩, [a, b]⟩ = some r) :
  Calls Try.prog 82 #[.pointer (some ⟨g, 0, none⟩), .pointer (some ⟨go, 0, none⟩), .int .i64 op, .int .i64 a, .int .i64 b] w fun e w' => e = .returned (.int .i64 r.1) ∧ ∃ ve', Ex w0 w' g go toks r.2.1 v ve' r.2.2 ok ∧ Fr w w' g go ve ve' := by
 unfold rPut at h; by_cases hl : es.length < 2513169434916
 case neg => rw [if_neg hl] at h; exact absurd h (by simp)
 rw [if_pos hl] at h; obtain rfl := si h; have HE := am hE; have HO := am hok; have HLim := am hl; have HC := am (l11Put_calls w0 (w.alloc (.cells #[.int .i64 a, .int .i64 b] 3)) g go toks p v ve es ok (fun q hq => hok q (Nat.le_trans (below_alloc (Below.refl _ _) _).size hq)) (hE.alloc _) op 0 ⟨#[]⟩ _ [a, b] (litR (w := w) [a, b] hE.bel.size (hok _ (Nat.le_refl _)) (by simp)) hl); have HFa := am (show Fr w (w.alloc (.cells #[.int .i64 a, .int .i64 b] 3)) g go ve ve from Fr.below (below_alloc (Below.refl _ _) _)); clear hE hok hl h; go_enter Try.func82, Try.ntmps82; go_wp2_with (go_at_call 85; refine HC.out.mono ?_; rintro e w1 ⟨rfl, ve1, hE1, hF1⟩); go_ret; exact ⟨rfl, ve1, hE1, HFa.out.trans hF1⟩
def Con (n : Nat) (F : List S84 → Ps → List S92 → Option (Int × Ps × List S92)) : Prop :=
 ∀ (w0 w : World) (g go : Nat) (toks : List S84) (p : Ps) (v ve : Value) (es : List S92) (ok : Nat → Prop) (hok : ∀ q, w.heap.size ≤ q → ok q) (hE : Ex w0 w g go toks p v ve es ok) (r : Int × Ps × List S92), F toks p es = some r →
  Calls Try.prog n #[.pointer (some ⟨g, 0, none⟩), .pointer (some ⟨go, 0, none⟩)] w fun e w' => e = .returned (.int .i64 r.1) ∧ ∃ ve', Ex w0 w' g go toks r.2.1 v ve' r.2.2 ok ∧ Fr w w' g go ve ve'
theorem okUp {w w' : World} {g go : Nat} {v v' : Value} {ok : Nat → Prop} (h : ∀ q, w.heap.size ≤ q → ok q) (f : Fr w w' g go v v') : ∀ q, w'.heap.size ≤ q → ok q := fun q hq => h q (Nat.le_trans f.size hq)
theorem simple_con (k : Nat) (ih : Con 91 (rSimpleOne k)) : Con 90 (rSimple (k + 1)) := by
 intro w0 w g go toks p v ve es ok hok hE r h; simp only [rSimple] at h; obtain ⟨r1, h1, h⟩ := Option.bind_eq_some_iff.mp h; obtain rfl := si h; have HE := am hE; have HO := am hok; have IH := am ih; have H1 := am h1; clear hE hok ih h h1; go_enter Try.func90, Try.ntmps90
 go_wp2_with (first
  | (go_at_call 47; refine HE.out.down.mono ?_; rintro e w1 ⟨rfl, hE1, hF1⟩; have HE1 := am hE1; have HF1 := am hF1; clear hE1 hF1)
  | (go_at_call 91; refine (IH.out w0 _ g go toks _ v _ es ok (okUp HO.out HF1.out) HE1.out r1 H1.out).mono ?_; rintro e w2 ⟨rfl, ve2, hE2, hF2⟩; have HE2 := am hE2; have HF2 := am (HF1.out.trans hF2); clear hE2 hF2)
  | (go_at_call 49; refine HE2.out.up.mono ?_; rintro e w3 ⟨rfl, hE3, hF3⟩; have HE3 := am hE3; have HF3 := am (HF2.out.trans hF3); clear hE3 hF3))
 go_ret; exact ⟨rfl, _, HE3.out, HF3.out⟩
theorem product_con (k : Nat) (ih : ∀ j, j ≤ k → Con 90 (rSimple j)) : Con 88 (rProduct (k + 1)) := by
 intro w0 w g go toks p v ve es ok hok hE r h; simp only [rProduct] at h; obtain ⟨r1, h1, h⟩ := Option.bind_eq_some_iff.mp h; have HE := am hE; have HO := am hok; have IH := am ih; have H1 := am h1; have H := am h; clear hE hok ih h h1; go_enter Try.func88, Try.ntmps88; go_wp2_with (go_at_call 90; refine (IH.out k (Nat.le_refl _) w0 _ g go toks _ v _ es ok HO.out HE.out r1 H1.out).mono ?_; rintro e w1 ⟨rfl, ve1, hE1, hF1⟩; have HE1 := am hE1; have HF1 := am hF1; clear hE1 hF1); go_loopg [5] k (fun kq v5 w' => ∃ (q : Int) (p' : Ps) (es' : List S92) (ve' : Value), v5 = .int .i64 q ∧ Aside0 (rProductL kq toks q p' es' = some r) ∧ Aside0 (kq ≤ k) ∧ Aside0 (Ex w0 w' g go toks p' v ve' es' ok) ∧ Aside0 (Fr w w' g go ve ve'))
 case atStart => exact ⟨r1.1, r1.2.1, r1.2.2, ve1, rfl, H, ⟨Nat.le_refl _⟩, HE1, HF1⟩
 case round =>
  clear H H1 HE1 HF1; obtain ⟨q, p1, es1, ve2, rfl, HA, HK, HE1, HF1⟩ := hrel
  cases gk with
  | zero => exact absurd HA.out (by simp [rProductL])
  | succ kq =>
   have H := HA.out; clear HA; simp only [rProductL] at H; obtain ⟨Ac, cc, hbx, hgx, htk⟩ := HE1.out.inn; have hcz3 := cellS78_3 hbx; clear hbx hgx htk; rcases ci H, H with ⟨⟨c1, H⟩ | ⟨c1, H⟩, -⟩
   ·obtain rfl := si H; rw [c1] at hcz3; go_wp2; go_ret; exact ⟨rfl, _, HE1.out, HF1.out⟩
   ·rw [Bool.eq_false_iff.mpr c1] at hcz3; rcases ci H, H with ⟨⟨c2, H⟩ | ⟨c2, H⟩, -⟩
    ·obtain ⟨r2, h2, H⟩ := Option.bind_eq_some_iff.mp H; obtain ⟨r3, h3, H⟩ := Option.bind_eq_some_iff.mp H; have H2 := am h2; have H3 := am h3; have HH := am H; have hs : (rSign toks p1 ⟨#[42]⟩).1 = true := by unfold rSign; rw [if_pos c2]
     clear h2 h3 H
     go_wp2_with (first
      | (go_at_call 36; (with_reducible refine (HE1.out.sign ⟨#[42]⟩).mono ?_); rw [hs]; rintro e w2 ⟨rfl, hE2, hF2⟩; have HE2 := am hE2; have HF2 := am (HF1.out.trans hF2); clear hE2 hF2)
      | (go_at_call 90; refine (IH.out kq (Nat.le_of_succ_le HK.out) w0 _ g go toks _ v _ es1 ok (okUp HO.out HF2.out) HE2.out r2 H2.out).mono ?_; rintro e w3 ⟨rfl, ve3, hE3, hF3⟩; have HE3 := am hE3; have HF3 := am (HF2.out.trans hF3); clear hE3 hF3)
      | (go_at_call 82; refine (two_calls w0 _ g go toks _ v _ _ ok (okUp HO.out HF3.out) HE3.out 6 q r2.1 r3 H3.out).mono ?_; rintro e w4 ⟨rfl, ve4, hE4, hF4⟩; have HE4 := am hE4; have HF4 := am (HF3.out.trans hF4); clear hE4 hF4))
     go_roundg kq
     case measure => exact Nat.lt_succ_self _
     case rel => exact ⟨r3.1, r3.2.1, r3.2.2, ve4, rfl, HH, ⟨Nat.le_of_succ_le HK.out⟩, HE4, HF4⟩
    ·have hsa : (rSign toks p1 ⟨#[42]⟩).1 = false := by unfold rSign; rw [if_neg c2]
     have hsb : (rSign toks p1 ⟨#[42]⟩).2 = p1 := by unfold rSign; rw [if_neg c2]
     rcases ci H, H with ⟨⟨c3, H⟩ | ⟨c3, H⟩, -⟩
     ·obtain ⟨r2, h2, H⟩ := Option.bind_eq_some_iff.mp H; obtain ⟨r3, h3, H⟩ := Option.bind_eq_some_iff.mp H; have H2 := am h2; have H3 := am h3; have HH := am H; have hs2 : (rSign toks p1 ⟨#[47]⟩).1 = true := by unfold rSign; rw [if_pos c3]
      clear h2 h3 H
      go_wp2_with (first
       | (go_at_call 36; (with_reducible refine (HE1.out.sign ⟨#[42]⟩).mono ?_); rw [hsa, hsb]; rintro e w2 ⟨rfl, hE2, hF2⟩; have HE5 := am hE2; have HF5 := am (HF1.out.trans hF2); clear hE2 hF2)
       | (go_at_call 36; (with_reducible refine (HE5.out.sign ⟨#[47]⟩).mono ?_); rw [hs2]; rintro e w2 ⟨rfl, hE2, hF2⟩; have HE2 := am hE2; have HF2 := am (HF5.out.trans hF2); clear hE2 hF2)
       | (go_at_call 90; refine (IH.out kq (Nat.le_of_succ_le HK.out) w0 _ g go toks _ v _ es1 ok (okUp HO.out HF2.out) HE2.out r2 H2.out).mono ?_; rintro e w3 ⟨rfl, ve3, hE3, hF3⟩; have HE3 := am hE3; have HF3 := am (HF2.out.trans hF3); clear hE3 hF3)
       | (go_at_call 82; refine (two_calls w0 _ g go toks _ v _ _ ok (okUp HO.out HF3.out) HE3.out 7 q r2.1 r3 H3.out).mono ?_; rintro e w4 ⟨rfl, ve4, hE4, hF4⟩; have HE4 := am hE4; have HF4 := am (HF3.out.trans hF4); clear hE4 hF4))
      go_roundg kq
      case measure => exact Nat.lt_succ_self _
      case rel => exact ⟨r3.1, r3.2.1, r3.2.2, ve4, rfl, HH, ⟨Nat.le_of_succ_le HK.out⟩, HE4, HF4⟩
     ·obtain rfl := si H; have hs2a : (rSign toks p1 ⟨#[47]⟩).1 = false := by unfold rSign; rw [if_neg c3]
      have hs2b : (rSign toks p1 ⟨#[47]⟩).2 = p1 := by unfold rSign; rw [if_neg c3]
      go_wp2_with (first
       | (go_at_call 36; (with_reducible refine (HE1.out.sign ⟨#[42]⟩).mono ?_); rw [hsa, hsb]; rintro e w2 ⟨rfl, hE2, hF2⟩; have HE5 := am hE2; have HF5 := am (HF1.out.trans hF2); clear hE2 hF2)
       | (go_at_call 36; (with_reducible refine (HE5.out.sign ⟨#[47]⟩).mono ?_); rw [hs2a, hs2b]; rintro e w2 ⟨rfl, hE2, hF2⟩; have HE2 := am hE2; have HF2 := am (HF5.out.trans hF2); clear hE2 hF2))
      go_ret; exact ⟨rfl, _, HE2.out, HF2.out⟩
theorem sum_con (k : Nat) (ih : ∀ j, j ≤ k → Con 88 (rProduct j)) : Con 84 (rSum (k + 1)) := by
 intro w0 w g go toks p v ve es ok hok hE r h; simp only [rSum] at h; obtain ⟨r1, h1, h⟩ := Option.bind_eq_some_iff.mp h; have HE := am hE; have HO := am hok; have IH := am ih; have H1 := am h1; have H := am h; clear hE hok ih h h1; go_enter Try.func84, Try.ntmps84; go_wp2_with (go_at_call 88; refine (IH.out k (Nat.le_refl _) w0 _ g go toks _ v _ es ok HO.out HE.out r1 H1.out).mono ?_; rintro e w1 ⟨rfl, ve1, hE1, hF1⟩; have HE1 := am hE1; have HF1 := am hF1; clear hE1 hF1); go_loopg [5] k (fun kq v5 w' => ∃ (q : Int) (p' : Ps) (es' : List S92) (ve' : Value), v5 = .int .i64 q ∧ Aside0 (rSumL kq toks q p' es' = some r) ∧ Aside0 (kq ≤ k) ∧ Aside0 (Ex w0 w' g go toks p' v ve' es' ok) ∧ Aside0 (Fr w w' g go ve ve'))
 case atStart => exact ⟨r1.1, r1.2.1, r1.2.2, ve1, rfl, H, ⟨Nat.le_refl _⟩, HE1, HF1⟩
 case round =>
  clear H H1 HE1 HF1; obtain ⟨q, p1, es1, ve2, rfl, HA, HK, HE1, HF1⟩ := hrel
  cases gk with
  | zero => exact absurd HA.out (by simp [rSumL])
  | succ kq =>
   have H := HA.out; clear HA; simp only [rSumL] at H; obtain ⟨Ac, cc, hbx, hgx, htk⟩ := HE1.out.inn; have hcz3 := cellS78_3 hbx; clear hbx hgx htk; rcases ci H, H with ⟨⟨c1, H⟩ | ⟨c1, H⟩, -⟩
   ·obtain rfl := si H; rw [c1] at hcz3; go_wp2; go_ret; exact ⟨rfl, _, HE1.out, HF1.out⟩
   ·rw [Bool.eq_false_iff.mpr c1] at hcz3; rcases ci H, H with ⟨⟨c2, H⟩ | ⟨c2, H⟩, -⟩
    ·obtain ⟨r2, h2, H⟩ := Option.bind_eq_some_iff.mp H; obtain ⟨r3, h3, H⟩ := Option.bind_eq_some_iff.mp H; have H2 := am h2; have H3 := am h3; have HH := am H; have hs : (rSign toks p1 ⟨#[43]⟩).1 = true := by unfold rSign; rw [if_pos c2]
     clear h2 h3 H
     go_wp2_with (first
      | (go_at_call 36; (with_reducible refine (HE1.out.sign ⟨#[43]⟩).mono ?_); rw [hs]; rintro e w2 ⟨rfl, hE2, hF2⟩; have HE2 := am hE2; have HF2 := am (HF1.out.trans hF2); clear hE2 hF2)
      | (go_at_call 88; refine (IH.out kq (Nat.le_of_succ_le HK.out) w0 _ g go toks _ v _ es1 ok (okUp HO.out HF2.out) HE2.out r2 H2.out).mono ?_; rintro e w3 ⟨rfl, ve3, hE3, hF3⟩; have HE3 := am hE3; have HF3 := am (HF2.out.trans hF3); clear hE3 hF3)
      | (go_at_call 82; refine (two_calls w0 _ g go toks _ v _ _ ok (okUp HO.out HF3.out) HE3.out 4 q r2.1 r3 H3.out).mono ?_; rintro e w4 ⟨rfl, ve4, hE4, hF4⟩; have HE4 := am hE4; have HF4 := am (HF3.out.trans hF4); clear hE4 hF4))
     go_roundg kq
     case measure => exact Nat.lt_succ_self _
     case rel => exact ⟨r3.1, r3.2.1, r3.2.2, ve4, rfl, HH, ⟨Nat.le_of_succ_le HK.out⟩, HE4, HF4⟩
    ·have hsa : (rSign toks p1 ⟨#[43]⟩).1 = false := by unfold rSign; rw [if_neg c2]
     have hsb : (rSign toks p1 ⟨#[43]⟩).2 = p1 := by unfold rSign; rw [if_neg c2]
     rcases ci H, H with ⟨⟨c3, H⟩ | ⟨c3, H⟩, -⟩
     ·obtain ⟨r2, h2, H⟩ := Option.bind_eq_some_iff.mp H; obtain ⟨r3, h3, H⟩ := Option.bind_eq_some_iff.mp H; have H2 := am h2; have H3 := am h3; have HH := am H; have hs2 : (rSign toks p1 ⟨#[45]⟩).1 = true := by unfold rSign; rw [if_pos c3]
      clear h2 h3 H
      go_wp2_with (first
       | (go_at_call 36; (with_reducible refine (HE1.out.sign ⟨#[43]⟩).mono ?_); rw [hsa, hsb]; rintro e w2 ⟨rfl, hE2, hF2⟩; have HE5 := am hE2; have HF5 := am (HF1.out.trans hF2); clear hE2 hF2)
       | (go_at_call 36; (with_reducible refine (HE5.out.sign ⟨#[45]⟩).mono ?_); rw [hs2]; rintro e w2 ⟨rfl, hE2, hF2⟩; have HE2 := am hE2; have HF2 := am (HF5.out.trans hF2); clear hE2 hF2)
       | (go_at_call 88; refine (IH.out kq (Nat.le_of_succ_le HK.out) w0 _ g go toks _ v _ es1 ok (okUp HO.out HF2.out) HE2.out r2 H2.out).mono ?_; rintro e w3 ⟨rfl, ve3, hE3, hF3⟩; have HE3 := am hE3; have HF3 := am (HF2.out.trans hF3); clear hE3 hF3)
       | (go_at_call 82; refine (two_calls w0 _ g go toks _ v _ _ ok (okUp HO.out HF3.out) HE3.out 5 q r2.1 r3 H3.out).mono ?_; rintro e w4 ⟨rfl, ve4, hE4, hF4⟩; have HE4 := am hE4; have HF4 := am (HF3.out.trans hF4); clear hE4 hF4))
      go_roundg kq
      case measure => exact Nat.lt_succ_self _
      case rel => exact ⟨r3.1, r3.2.1, r3.2.2, ve4, rfl, HH, ⟨Nat.le_of_succ_le HK.out⟩, HE4, HF4⟩
     ·obtain rfl := si H; have hs2a : (rSign toks p1 ⟨#[45]⟩).1 = false := by unfold rSign; rw [if_neg c3]
      have hs2b : (rSign toks p1 ⟨#[45]⟩).2 = p1 := by unfold rSign; rw [if_neg c3]
      go_wp2_with (first
       | (go_at_call 36; (with_reducible refine (HE1.out.sign ⟨#[43]⟩).mono ?_); rw [hsa, hsb]; rintro e w2 ⟨rfl, hE2, hF2⟩; have HE5 := am hE2; have HF5 := am (HF1.out.trans hF2); clear hE2 hF2)
       | (go_at_call 36; (with_reducible refine (HE5.out.sign ⟨#[45]⟩).mono ?_); rw [hs2a, hs2b]; rintro e w2 ⟨rfl, hE2, hF2⟩; have HE2 := am hE2; have HF2 := am (HF5.out.trans hF2); clear hE2 hF2))
      go_ret; exact ⟨rfl, _, HE2.out, HF2.out⟩
theorem compare_con (k : Nat) (ih : Con 84 (rSum k)) : Con 81 (rCompare (k + 1)) := by
 intro w0 w g go toks p v ve es ok hok hE r h; simp only [rCompare] at h; obtain ⟨r1, h1, h⟩ := Option.bind_eq_some_iff.mp h; have HE := am hE; have HO := am hok; have IH := am ih; have H1 := am h1; have H := am h; clear hE hok ih h1 h; go_enter Try.func81, Try.ntmps81; go_upto_region 2 with (go_at_call 84; refine (IH.out w0 _ g go toks _ v _ es ok HO.out HE.out r1 H1.out).mono ?_; rintro e w1 ⟨rfl, ve1, hE1, hF1⟩; have HE1 := am hE1; have HF1 := am hF1; clear hE1 hF1); have h := H.out; clear H; by_cases c2 : rIs toks r1.2.1 ⟨#[60]⟩ = true
 ·rw [if_pos c2] at h; obtain ⟨r2, h2, h⟩ := Option.bind_eq_some_iff.mp h; have H2 := am h2; have H3 := am h; have hs : (rSign toks r1.2.1 ⟨#[60]⟩).1 = true := by unfold rSign; rw [if_pos c2]
  clear h2 h
  go_wp2_with (first
     | (go_at_call 36; (with_reducible refine (HE1.out.sign ⟨#[60]⟩).mono ?_); rw [hs]; rintro e w2 ⟨rfl, hE2, hF2⟩; have HE2 := am hE2; have HF2 := am (HF1.out.trans hF2); clear hE2 hF2)
     | (go_at_call 84; refine (IH.out w0 _ g go toks _ v _ _ ok (okUp HO.out HF2.out) HE2.out r2 H2.out).mono ?_; rintro e w3 ⟨rfl, ve3, hE3, hF3⟩; have HE3 := am hE3; have HF3 := am (HF2.out.trans hF3); clear hE3 hF3)
     | (go_at_call 82; (with_reducible refine (two_calls w0 _ g go toks _ v _ _ ok (okUp HO.out HF3.out) HE3.out 8 r1.1 r2.1 r H3.out).mono ?_); rintro e w4 ⟨rfl, ve4, hE4, hF4⟩; have HE4 := am hE4; have HF4 := am (HF3.out.trans hF4); clear hE4 hF4))
  go_ret; exact ⟨rfl, _, HE4.out, HF4.out⟩
 ·rw [if_neg c2] at h; have hsa : (rSign toks r1.2.1 ⟨#[60]⟩).1 = false := by unfold rSign; rw [if_neg c2]
  have hsb : (rSign toks r1.2.1 ⟨#[60]⟩).2 = r1.2.1 := by unfold rSign; rw [if_neg c2]
  by_cases c3 : rIs toks r1.2.1 ⟨#[61]⟩ = true
  ·rw [if_pos c3] at h; obtain ⟨r2, h2, h⟩ := Option.bind_eq_some_iff.mp h; have H2 := am h2; have H3 := am h; have hs : (rSign toks r1.2.1 ⟨#[61]⟩).1 = true := by unfold rSign; rw [if_pos c3]
   clear h2 h
   go_wp2_with (first
     | (go_at_call 36; (with_reducible refine (HE1.out.sign ⟨#[60]⟩).mono ?_); rw [hsa, hsb]; rintro e w2 ⟨rfl, hE2, hF2⟩; have HE5 := am hE2; have HF5 := am (HF1.out.trans hF2); clear hE2 hF2)
     | (go_at_call 36; (with_reducible refine (HE5.out.sign ⟨#[61]⟩).mono ?_); rw [hs]; rintro e w2 ⟨rfl, hE2, hF2⟩; have HE2 := am hE2; have HF2 := am (HF5.out.trans hF2); clear hE2 hF2)
     | (go_at_call 84; refine (IH.out w0 _ g go toks _ v _ _ ok (okUp HO.out HF2.out) HE2.out r2 H2.out).mono ?_; rintro e w3 ⟨rfl, ve3, hE3, hF3⟩; have HE3 := am hE3; have HF3 := am (HF2.out.trans hF3); clear hE3 hF3)
     | (go_at_call 82; (with_reducible refine (two_calls w0 _ g go toks _ v _ _ ok (okUp HO.out HF3.out) HE3.out 9 r1.1 r2.1 r H3.out).mono ?_); rintro e w4 ⟨rfl, ve4, hE4, hF4⟩; have HE4 := am hE4; have HF4 := am (HF3.out.trans hF4); clear hE4 hF4))
   go_ret; exact ⟨rfl, _, HE4.out, HF4.out⟩
  ·rw [if_neg c3] at h; obtain rfl := si h; have hs2a : (rSign toks r1.2.1 ⟨#[61]⟩).1 = false := by unfold rSign; rw [if_neg c3]
   have hs2b : (rSign toks r1.2.1 ⟨#[61]⟩).2 = r1.2.1 := by unfold rSign; rw [if_neg c3]
   go_wp2_with (first
     | (go_at_call 36; (with_reducible refine (HE1.out.sign ⟨#[60]⟩).mono ?_); rw [hsa, hsb]; rintro e w2 ⟨rfl, hE2, hF2⟩; have HE5 := am hE2; have HF5 := am (HF1.out.trans hF2); clear hE2 hF2)
     | (go_at_call 36; (with_reducible refine (HE5.out.sign ⟨#[61]⟩).mono ?_); rw [hs2a, hs2b]; rintro e w2 ⟨rfl, hE2, hF2⟩; have HE2 := am hE2; have HF2 := am (HF5.out.trans hF2); clear hE2 hF2))
   go_ret; exact ⟨rfl, _, HE2.out, HF2.out⟩
theorem expr_con (k : Nat) (ih : ∀ j, j ≤ k → Con 81 (rCompare j)) : Con 77 (rExpr (k + 1)) := by
 intro w0 w g go toks p v ve es ok hok hE r h; simp only [rExpr] at h; obtain ⟨r1, h1, h⟩ := Option.bind_eq_some_iff.mp h; have HE := am hE; have HO := am hok; have IH := am ih; have H1 := am h1; have H := am h; clear hE hok ih h1 h; go_enter Try.func77, Try.ntmps77
 go_wp2_with (first
  | (go_at_call 47; refine HE.out.down.mono ?_; rintro e w1 ⟨rfl, hE1, hF1⟩; have HE0 := am hE1; have HF0 := am hF1; clear hE1 hF1)
  | (go_at_call 81; refine (IH.out k (Nat.le_refl _) w0 _ g go toks _ v _ es ok (okUp HO.out HF0.out) HE0.out r1 H1.out).mono ?_; rintro e w1 ⟨rfl, ve1, hE1, hF1⟩; have HE1 := am hE1; have HF1 := am (HF0.out.trans hF1); clear hE1 hF1))
 go_loopg [5] k (fun kq v5 w' => ∃ (q : Int) (p' : Ps) (es' : List S92) (ve' : Value), v5 = .int .i64 q ∧ Aside0 (rExprL kq toks q p' es' = some r) ∧ Aside0 (kq ≤ k) ∧ Aside0 (Ex w0 w' g go toks p' v ve' es' ok) ∧ Aside0 (Fr w w' g go ve ve'))
 case atStart => exact ⟨r1.1, r1.2.1, r1.2.2, ve1, rfl, H, ⟨Nat.le_refl _⟩, HE1, HF1⟩
 case round =>
  clear H H1 HE1 HF1; obtain ⟨q, p1, es1, ve2, rfl, HA, HK, HE1, HF1⟩ := hrel
  cases gk with
  | zero => exact absurd HA.out (by simp [rExprL])
  | succ kq =>
   have H := HA.out; clear HA; simp only [rExprL] at H; obtain ⟨Ac, cc, hbx, hgx, htk⟩ := HE1.out.inn; have hcz3 := cellS78_3 hbx; clear hbx hgx htk; rcases ci H, H with ⟨⟨c1, H⟩ | ⟨c1, H⟩, -⟩
   ·obtain rfl := si H; rw [c1] at hcz3; go_wp2_with (go_at_call 49; refine HE1.out.up.mono ?_; rintro e w3 ⟨rfl, hE3, hF3⟩; have HE3 := am hE3; have HF3 := am (HF1.out.trans hF3); clear hE3 hF3); go_ret; exact ⟨rfl, _, HE3.out, HF3.out⟩
   ·rw [Bool.eq_false_iff.mpr c1] at hcz3; rcases ci H, H with ⟨⟨c2, H⟩ | ⟨c2, H⟩, -⟩
    ·obtain ⟨r2, h2, H⟩ := Option.bind_eq_some_iff.mp H; obtain ⟨r3, h3, H⟩ := Option.bind_eq_some_iff.mp H; have H2 := am h2; have H3 := am h3; have HH := am H; have hs : (rSign toks p1 ⟨#[38]⟩).1 = true := by unfold rSign; rw [if_pos c2]
     clear h2 h3 H
     go_wp2_with (first
      | (go_at_call 36; (with_reducible refine (HE1.out.sign ⟨#[38]⟩).mono ?_); rw [hs]; rintro e w2 ⟨rfl, hE2, hF2⟩; have HE2 := am hE2; have HF2 := am (HF1.out.trans hF2); clear hE2 hF2)
      | (go_at_call 81; refine (IH.out kq (Nat.le_of_succ_le HK.out) w0 _ g go toks _ v _ es1 ok (okUp HO.out HF2.out) HE2.out r2 H2.out).mono ?_; rintro e w3 ⟨rfl, ve3, hE3, hF3⟩; have HE3 := am hE3; have HF3 := am (HF2.out.trans hF3); clear hE3 hF3)
      | (go_at_call 82; refine (two_calls w0 _ g go toks _ v _ _ ok (okUp HO.out HF3.out) HE3.out 10 q r2.1 r3 H3.out).mono ?_; rintro e w4 ⟨rfl, ve4, hE4, hF4⟩; have HE4 := am hE4; have HF4 := am (HF3.out.trans hF4); clear hE4 hF4))
     go_roundg kq
     case measure => exact Nat.lt_succ_self _
     case rel => exact ⟨r3.1, r3.2.1, r3.2.2, ve4, rfl, HH, ⟨Nat.le_of_succ_le HK.out⟩, HE4, HF4⟩
    ·obtain rfl := si H; have hsa : (rSign toks p1 ⟨#[38]⟩).1 = false := by unfold rSign; rw [if_neg c2]
     have hsb : (rSign toks p1 ⟨#[38]⟩).2 = p1 := by unfold rSign; rw [if_neg c2]
     go_wp2_with (first
      | (go_at_call 36; (with_reducible refine (HE1.out.sign ⟨#[38]⟩).mono ?_); rw [hsa, hsb]; rintro e w2 ⟨rfl, hE2, hF2⟩; have HE2 := am hE2; have HF2 := am (HF1.out.trans hF2); clear hE2 hF2)
      | (go_at_call 49; refine HE2.out.up.mono ?_; rintro e w3 ⟨rfl, hE3, hF3⟩; have HE3 := am hE3; have HF3 := am (HF2.out.trans hF3); clear hE3 hF3))
     go_ret; exact ⟨rfl, _, HE3.out, HF3.out⟩
theorem rPut_some {p : Ps} {es : List S92} {x : S92} {r : Int × Ps × List S92} (h : rPut p es x = some r) : es.length < 2513169434916 ∧ r = ((es.length : Int), p, es ++ [x]) := by
 unfold rPut at h; by_cases hl : es.length < 2513169434916
 ·rw [if_pos hl] at h; exact ⟨hl, (Option.some.inj h).symm⟩
 ·rw [if_neg hl] at h; exact absurd h (by simp)
theorem sgT {toks : List S84} {p : Ps} {s : ByteArray} (h : rIs toks p s = true) : (rSign toks p s).1 = true := by unfold rSign; rw [if_pos h]
theorem sgF {toks : List S84} {p : Ps} {s : ByteArray} (h : ¬ rIs toks p s = true) : (rSign toks p s).1 = false := by unfold rSign; rw [if_neg h]
theorem sgP {toks : List S84} {p : Ps} {s : ByteArray} (h : ¬ rIs toks p s = true) : (rSign toks p s).2 = p := by unfold rSign; rw [if_neg h]
theorem kdP {toks : List S84} {p : Ps} {k : Int} (h : ¬ (rKind toks p k).2.1 = true) : (rKind toks p k).2.2 = p := by
 unfold rKind at h ⊢; by_cases h1 : p.bad = true
 ·rw [if_pos h1]
 ·rw [if_neg h1] at h ⊢; by_cases h2 : p.at_ ≥ (toks.length : Int)
  ·rw [if_pos h2]
  ·rw [if_neg h2] at h ⊢; by_cases h3 : (rd_T84 toks p.at_).f0 = k
   ·rw [if_pos h3] at h; exact absurd rfl h
   ·rw [if_neg h3]
theorem Ex.setBad {w0 w : World} {g go : Nat} {toks : List S84} {p : Ps} {v ve : Value} {es : List S92} {ok : Nat → Prop} (h : Ex w0 w g go toks p v ve es ok) : Ex w0 (w.setCell ⟨g, 3, none⟩ (.bool true)) g go toks ⟨p.at_, p.deep, true⟩ v ve es ok :=
 h.keep (p' := ⟨p.at_, p.deep, true⟩) ((KeepBut.refl w g none).set_ 3 (.bool true)) (h.inn.set_3 true) h.pos (below_set h.bel h.inn.ge)
theorem Fr.setBad {w w1 : World} {g go : Nat} {v v1 : Value} (h : Fr w w1 g go v v1) : Fr w (w1.setCell ⟨g, 3, none⟩ (.bool true)) g go v v1 :=
 h.trans (Fr.of_keep ((KeepBut.refl w1 g none).set_ 3 (.bool true)) go v1)
theorem simpleOne_con (k : Nat) (ih : Con 90 (rSimple k)) (ihe : Con 77 (rExpr k)) : Con 91 (rSimpleOne (k + 1)) := by
 intro w0 w g go toks p v ve es ok hok hE r h; simp only [rSimpleOne] at h; have HE := am hE; have HO := am hok; have IH := am ih; have IHE := am ihe; have HF := am (Fr.refl w g go ve); clear hE hok ih ihe; by_cases c1 : rIs toks p ⟨#[33]⟩ = true
 ·rw [if_pos c1] at h; obtain ⟨r1, h1, h⟩ := Option.bind_eq_some_iff.mp h; obtain ⟨hl, rfl⟩ := rPut_some h; have H1 := am h1; have HL := am hl; have hs := sgT c1; clear h h1 hl; go_enter Try.func91, Try.ntmps91
  go_wp2_with (first
   | (go_at_call 36; (with_reducible refine (HE.out.sign ⟨#[33]⟩).mono ?_); rw [hs]; rintro e w2 ⟨rfl, hE2, hF2⟩; have HE1 := am hE2; have HF1 := am (HF.out.trans hF2); clear hE2 hF2)
   | (go_at_call 90; refine (IH.out w0 _ g go toks _ v _ es ok (okUp HO.out HF1.out) HE1.out r1 H1.out).mono ?_; rintro e w3 ⟨rfl, ve3, hE3, hF3⟩; have HE3 := am hE3; have HF3 := am (HF1.out.trans hF3); clear hE3 hF3)
   | (go_at_call 85; refine (l11Put_calls w0 _ g go toks _ v _ r1.2.2 ok (fun q hq => okUp HO.out HF3.out q (Nat.le_trans (below_alloc (Below.refl _ _) _).size hq)) (HE3.out.alloc _) 11 0 ⟨#[]⟩ _ [r1.1] (litR [r1.1] HE3.out.bel.size (okUp HO.out HF3.out _ (Nat.le_refl _)) (by simp)) HL.out).mono ?_; rintro e w4 ⟨rfl, ve4, hE4, hF4⟩; have HE4 := am hE4; have HF4 := am ((HF3.out.trans (Fr.below (below_alloc (Below.refl _ _) _))).trans hF4); clear hE4 hF4))
  go_ret; exact ⟨rfl, _, HE4.out, HF4.out⟩
 rw [if_neg c1] at h; have hs1 := sgF c1; have hp1 := sgP c1; by_cases c2 : rIs toks p ⟨#[64]⟩ = true
 ·rw [if_pos c2] at h; obtain ⟨hl, rfl⟩ := rPut_some h; have HL := am hl; have hs := sgT c2; clear h hl; go_enter Try.func91, Try.ntmps91
  go_wp2_with (first
   | (go_at_call 36; (with_reducible refine (HE.out.sign ⟨#[33]⟩).mono ?_); rw [hs1, hp1]; rintro e w2 ⟨rfl, hE2, hF2⟩; have HE1 := am hE2; have HF1 := am (HF.out.trans hF2); clear hE2 hF2)
   | (go_at_call 36; (with_reducible refine (HE1.out.sign ⟨#[64]⟩).mono ?_); rw [hs]; rintro e w2 ⟨rfl, hE2, hF2⟩; have HE2 := am hE2; have HF2 := am (HF1.out.trans hF2); clear hE2 hF2)
   | (go_at_call 85; refine (l11Put_calls w0 _ g go toks _ v _ es ok (okUp HO.out HF2.out) HE2.out 3 0 ⟨#[]⟩ _ [] (Kd.R_nil _ _ _ _ _) HL.out).mono ?_; rintro e w4 ⟨rfl, ve4, hE4, hF4⟩; have HE4 := am hE4; have HF4 := am (HF2.out.trans hF4); clear hE4 hF4))
  go_ret; exact ⟨rfl, _, HE4.out, HF4.out⟩
 rw [if_neg c2] at h; have hs2 := sgF c2; have hp2 := sgP c2; by_cases c3 : rIs toks p ⟨#[40]⟩ = true
 ·rw [if_pos c3] at h; obtain ⟨r1, h1, h⟩ := Option.bind_eq_some_iff.mp h; obtain rfl := si h; have H1 := am h1; have hs := sgT c3; clear h h1; go_enter Try.func91, Try.ntmps91
  go_wp2_with (first
   | (go_at_call 36; (with_reducible refine (HE.out.sign ⟨#[33]⟩).mono ?_); rw [hs1, hp1]; rintro e w2 ⟨rfl, hE2, hF2⟩; have HE1 := am hE2; have HF1 := am (HF.out.trans hF2); clear hE2 hF2)
   | (go_at_call 36; (with_reducible refine (HE1.out.sign ⟨#[64]⟩).mono ?_); rw [hs2, hp2]; rintro e w2 ⟨rfl, hE2, hF2⟩; have HE2 := am hE2; have HF2 := am (HF1.out.trans hF2); clear hE2 hF2)
   | (go_at_call 36; (with_reducible refine (HE2.out.sign ⟨#[40]⟩).mono ?_); rw [hs]; rintro e w2 ⟨rfl, hE2, hF2⟩; have HE5 := am hE2; have HF5 := am (HF2.out.trans hF2); clear hE2 hF2)
   | (go_at_call 77; refine (IHE.out w0 _ g go toks _ v _ es ok (okUp HO.out HF5.out) HE5.out r1 H1.out).mono ?_; rintro e w3 ⟨rfl, ve3, hE3, hF3⟩; have HE3 := am hE3; have HF3 := am (HF5.out.trans hF3); clear hE3 hF3)
   | (go_at_call 37; refine (HE3.out.want ⟨#[41]⟩).mono ?_; rintro e w4 ⟨rfl, hE4, hF4⟩; have HE4 := am hE4; have HF4 := am (HF3.out.trans hF4); clear hE4 hF4))
  go_ret; exact ⟨rfl, _, HE4.out, HF4.out⟩
 rw [if_neg c3] at h; have hs3 := sgF c3; have hp3 := sgP c3; by_cases c4 : (rKind toks p 2).2.1 = true
 ·rw [if_pos c4] at h; obtain ⟨n, h1, h⟩ := Option.bind_eq_some_iff.mp h; obtain ⟨hl, rfl⟩ := rPut_some h; have H1 := am h1; have HL := am hl; clear h h1 hl; go_enter Try.func91, Try.ntmps91
  go_wp2_with (first
   | (go_at_call 36; (with_reducible refine (HE.out.sign ⟨#[33]⟩).mono ?_); rw [hs1, hp1]; rintro e w2 ⟨rfl, hE2, hF2⟩; have HE1 := am hE2; have HF1 := am (HF.out.trans hF2); clear hE2 hF2)
   | (go_at_call 36; (with_reducible refine (HE1.out.sign ⟨#[64]⟩).mono ?_); rw [hs2, hp2]; rintro e w2 ⟨rfl, hE2, hF2⟩; have HE2 := am hE2; have HF2 := am (HF1.out.trans hF2); clear hE2 hF2)
   | (go_at_call 36; (with_reducible refine (HE2.out.sign ⟨#[40]⟩).mono ?_); rw [hs3, hp3]; rintro e w2 ⟨rfl, hE2, hF2⟩; have HE5 := am hE2; have HF5 := am (HF2.out.trans hF2); clear hE2 hF2)
   | (go_at_call 35; (with_reducible refine (HE5.out.kind 2).mono ?_); rw [c4]; rintro e w2 ⟨rfl, hE2, hF2⟩; have HE6 := am hE2; have HF6 := am (HF5.out.trans hF2); clear hE2 hF2))
  go_loopg [9, 10] k (fun kq v9 v10 w' => ∃ (m i : Int), v9 = .int .i64 m ∧ v10 = .int .i64 i ∧ Aside0 (rNum kq (rKind toks p 2).1 m i = some n) ∧ Aside0 (Ex w0 w' g go toks (rKind toks p 2).2.2 v ve es ok) ∧ Aside0 (Fr w w' g go ve ve))
  case atStart => exact ⟨0, 0, rfl, rfl, H1, HE6, HF6⟩
  case round =>
   clear H1 HE6 HF6; obtain ⟨m, i, rfl, rfl, HA, HE6, HF6⟩ := hrel
   cases gk with
   | zero => exact absurd HA.out (by simp [rNum])
   | succ kq =>
    have H := HA.out; clear HA; simp only [rNum] at H; by_cases d1 : i < ((rKind toks p 2).1.size : Int)
    ·rw [if_pos d1] at H; by_cases d2 : 0 ≤ i
     ·rw [if_pos d2] at H; have HH := am H; clear H; have d1b : decide (i < ((rKind toks p 2).1.size : Int)) = true := decide_eq_true d1; have hx4 := bt_at (rKind toks p 2).1 i; have p4 := eq_true d2; have q4 := eq_true d1; clear d1 d2; go_wp2; go_roundg kq
      case measure => exact Nat.lt_succ_self _
      case rel => exact ⟨_, _, rfl, rfl, HH, HE6, HF6⟩
     ·rw [if_neg d2] at H; exact absurd H (by simp)
    ·rw [if_neg d1] at H; obtain rfl := si H; have d1b : decide (i < ((rKind toks p 2).1.size : Int)) = false := decide_eq_false d1; clear d1 H; go_wp2_with (go_at_call 85; refine (l11Put_calls w0 _ g go toks _ v _ es ok (okUp HO.out HF6.out) HE6.out 1 m ⟨#[]⟩ _ [] (Kd.R_nil _ _ _ _ _) HL.out).mono ?_; rintro e w4 ⟨rfl, ve4, hE4, hF4⟩; have HE4 := am hE4; have HF4 := am (HF6.out.trans hF4); clear hE4 hF4); go_ret; exact ⟨rfl, _, HE4.out, HF4.out⟩
 rw [if_neg c4] at h; have hs4 : (rKind toks p 2).2.1 = false := by simpa using c4
 have hp4 := kdP c4; obtain ⟨hl, rfl⟩ := rPut_some h; have HL := am hl; clear h hl; by_cases c5 : (rKind toks p 1).2.1 = true
 ·rw [if_pos c5]; go_enter Try.func91, Try.ntmps91
  go_wp2_with (first
   | (go_at_call 36; (with_reducible refine (HE.out.sign ⟨#[33]⟩).mono ?_); rw [hs1, hp1]; rintro e w2 ⟨rfl, hE2, hF2⟩; have HE1 := am hE2; have HF1 := am (HF.out.trans hF2); clear hE2 hF2)
   | (go_at_call 36; (with_reducible refine (HE1.out.sign ⟨#[64]⟩).mono ?_); rw [hs2, hp2]; rintro e w2 ⟨rfl, hE2, hF2⟩; have HE2 := am hE2; have HF2 := am (HF1.out.trans hF2); clear hE2 hF2)
   | (go_at_call 36; (with_reducible refine (HE2.out.sign ⟨#[40]⟩).mono ?_); rw [hs3, hp3]; rintro e w2 ⟨rfl, hE2, hF2⟩; have HE5 := am hE2; have HF5 := am (HF2.out.trans hF2); clear hE2 hF2)
   | (go_at_call 35; (with_reducible refine (HE5.out.kind 2).mono ?_); rw [hs4, hp4]; rintro e w2 ⟨rfl, hE2, hF2⟩; have HE6 := am hE2; have HF6 := am (HF5.out.trans hF2); clear hE2 hF2)
   | (go_at_call 35; (with_reducible refine (HE6.out.kind 1).mono ?_); rw [c5]; rintro e w2 ⟨rfl, hE2, hF2⟩; have HE7 := am hE2; have HF7 := am (HF6.out.trans hF2); clear hE2 hF2)
   | (go_at_call 85; refine (l11Put_calls w0 _ g go toks _ v _ es ok (okUp HO.out HF7.out) HE7.out 2 0 _ _ [] (Kd.R_nil _ _ _ _ _) HL.out).mono ?_; rintro e w4 ⟨rfl, ve4, hE4, hF4⟩; have HE4 := am hE4; have HF4 := am (HF7.out.trans hF4); clear hE4 hF4))
  go_ret; exact ⟨rfl, _, HE4.out, HF4.out⟩
 ·rw [if_neg c5]; have hs5 : (rKind toks p 1).2.1 = false := by simpa using c5
  go_enter Try.func91, Try.ntmps91
  go_upto_region 20 with (first
   | (go_at_call 36; (with_reducible refine (HE.out.sign ⟨#[33]⟩).mono ?_); rw [hs1, hp1]; rintro e w2 ⟨rfl, hE2, hF2⟩; have HE1 := am hE2; have HF1 := am (HF.out.trans hF2); clear hE2 hF2)
   | (go_at_call 36; (with_reducible refine (HE1.out.sign ⟨#[64]⟩).mono ?_); rw [hs2, hp2]; rintro e w2 ⟨rfl, hE2, hF2⟩; have HE2 := am hE2; have HF2 := am (HF1.out.trans hF2); clear hE2 hF2)
   | (go_at_call 36; (with_reducible refine (HE2.out.sign ⟨#[40]⟩).mono ?_); rw [hs3, hp3]; rintro e w2 ⟨rfl, hE2, hF2⟩; have HE5 := am hE2; have HF5 := am (HF2.out.trans hF2); clear hE2 hF2)
   | (go_at_call 35; (with_reducible refine (HE5.out.kind 2).mono ?_); rw [hs4, hp4]; rintro e w2 ⟨rfl, hE2, hF2⟩; have HE6 := am hE2; have HF6 := am (HF5.out.trans hF2); clear hE2 hF2)
   | (go_at_call 35; (with_reducible refine (HE6.out.kind 1).mono ?_); rw [hs5]; rintro e w2 ⟨rfl, hE2, hF2⟩; have HE7 := am hE2; have HF7 := am (HF6.out.trans hF2); clear hE2 hF2))
  obtain ⟨Ac, cc, hbx, hgx, htk⟩ := HE7.out.inn; have hcz3 := cellS78_3 hbx; have hfz3 := blk_frozen hbx 3; clear hbx hgx htk; go_wp2_with (go_at_call 85; refine (l11Put_calls w0 _ g go toks _ v _ es ok (okUp HO.out HF7.out.setBad) HE7.out.setBad 2 0 _ _ [] (Kd.R_nil _ _ _ _ _) HL.out).mono ?_; rintro e w4 ⟨rfl, ve4, hE4, hF4⟩; have HE4 := am hE4; have HF4 := am (HF7.out.setBad.trans hF4); clear hE4 hF4); go_ret; exact ⟨rfl, _, HE4.out, HF4.out⟩
theorem all_con : ∀ k, Con 90 (rSimple k) ∧ Con 91 (rSimpleOne k) ∧ Con 88 (rProduct k) ∧ Con 84 (rSum k) ∧ Con 81 (rCompare k) ∧ Con 77 (rExpr k) := by
 intro k
 induction k using Nat.strongRecOn with
 | _ k ih =>
 cases k with
 | zero =>
  refine ⟨?_, ?_, ?_, ?_, ?_, ?_⟩ <;> intro w0 w g go toks p v ve es ok hok hE r h
  ·exact absurd h (by simp [rSimple])
  ·exact absurd h (by simp [rSimpleOne])
  ·exact absurd h (by simp [rProduct])
  ·exact absurd h (by simp [rSum])
  ·exact absurd h (by simp [rCompare])
  ·exact absurd h (by simp [rExpr])
 | succ k =>
  have i := fun j (hj : j ≤ k) => ih j (Nat.lt_succ_of_le hj)
  exact ⟨simple_con k (i k (Nat.le_refl _)).2.1, simpleOne_con k (i k (Nat.le_refl _)).1 (i k (Nat.le_refl _)).2.2.2.2.2, product_con k (fun j hj => (i j hj).1), sum_con k (fun j hj => (i j hj).2.2.1), compare_con k (i k (Nat.le_refl _)).2.2.2.1, expr_con k (fun j hj => (i j hj).2.2.2.2.1)⟩
structure Nd (w0 w : World) (g : Nat) (toks : List S84) (p : Ps) (v : Value) (out : List S98) (ok : Nat → Prop) : Prop where
 inn : IsS78 w0 w g toks p.at_ p.deep p.bad v
 pos : 0 ≤ p.at_
 bel : Below w0.heap.size w0 w
 row : Kd.R k98 98 w w0.heap.size ok v out
section
variable {w0 w w' : World} {g : Nat} {toks : List S84} {p p' : Ps} {v : Value} {out : List S98} {ok ok' : Nat → Prop}
theorem Nd.rowne (h : Nd w0 w g toks p v out ok) : Kd.R k98 98 w w0.heap.size (fun k => ok k ∧ k ≠ g) v out := h.inn.apart h.row (by decide)
theorem Nd.keep (h : Nd w0 w g toks p v out ok) (hk : KeepBut w w' g none) (hI : IsS78 w0 w' g toks p'.at_ p'.deep p'.bad v) (hp : 0 ≤ p'.at_) (hB : Below w0.heap.size w0 w') : Nd w0 w' g toks p' v out ok :=
 ⟨hI, hp, hB, Kd.R_mono (Kd.R_keep h.rowne hk (fun k hk => hk.2)) (fun k hk => hk.1)⟩
theorem Nd.below (h : Nd w0 w g toks p v out ok) (hb : Below w.heap.size w w') : Nd w0 w' g toks p v out ok := ⟨h.inn.below hb, h.pos, h.bel.trans (hb.mono h.bel.size), Kd.R_below h.row hb⟩
theorem Nd.alloc (h : Nd w0 w g toks p v out ok) (o : Obj) : Nd w0 (w.alloc o) g toks p v out ok := h.below (below_alloc (Below.refl _ _) o)
theorem Nd.drew (h : Nd w0 w g toks p v out ok) : Nd w0 w.drew g toks p v out ok := h.below (below_drew (Below.refl _ _))
theorem Nd.mono (h : Nd w0 w g toks p v out ok) (hm : ∀ q, ok q → q < w.heap.size → ok' q) : Nd w0 w g toks p v out ok' := ⟨h.inn, h.pos, h.bel, Kd.R_mono (Kd.R_bound h.row) (fun k hk => hm k hk.1 hk.2.2.1)⟩
end
def rWhole (k : Nat) (toks : List S84) (p : Ps) : Option (List S92 × Ps) := (rExpr k toks p []).bind fun r => some (r.2.2, r.2.1)
theorem R_fresh0 (w : World) (base : Nat) (hb : base ≤ w.heap.size) (ok : Nat → Prop) (hok : ok w.heap.size) : Kd.R k92 92 (w.alloc (.cells #[] 92)) base ok (.slice (some ⟨w.heap.size, 0, none⟩) 0 0) [] := by
 refine ⟨fun k hk => ?_, [], ?_, ⟨rfl, fun j p hj => by simp at hj⟩⟩
 ·have h2 : w.heap.size = k := by simpa [Value.ownBlock] using hk
  subst h2; exact hok
 ·have h2 := World.ownsRow_lit (base := base) (e := 92) (size := k92.sz) w #[] 0 hb (by decide) (by simp); simpa using h2
theorem whole_calls (k : Nat) (w0 w : World) (g : Nat) (toks : List S84) (p : Ps) (v : Value) (out : List S98) (ok : Nat → Prop) (hN : Nd w0 w g toks p v out ok) (r : List S92 × Ps) (h : rWhole k toks p = some r) :
  Calls Try.prog 72 #[.pointer (some ⟨g, 0, none⟩)] w fun e w' => ∃ ve, e = .returned (.agg #[ve]) ∧ Nd w0 w' g toks r.2 v out ok ∧ Kd.R k92 92 w' w0.heap.size (fun q => w.heap.size ≤ q) ve r.1 ∧ KeepBut w w' g none := by
 unfold rWhole at h; obtain ⟨r1, h1, h⟩ := Option.bind_eq_some_iff.mp h; obtain rfl := si h; have HN := am hN; have H1 := am h1; clear hN h h1; go_enter Try.func72, Try.ntmps72; go_upto_region 2 with fail; have hsz : ∀ (u : World) (o : Obj), (u.alloc o).heap.size = u.heap.size + 1 := fun u o => by simp
 have hb1 : Below w.heap.size w (w.alloc (.cells #[.slice none 0 0] 69)) := below_alloc (Below.refl _ _) _; have hR := R_fresh0 (w.alloc (.cells #[.slice none 0 0] 69)) w0.heap.size (Nat.le_trans HN.out.bel.size hb1.size) (fun q => w.heap.size ≤ q) hb1.size; have hX2 : (w.alloc (.cells #[.slice none 0 0] 69)).heap[w.heap.size]? = some (.cells #[.slice none 0 0] 69 (0, 0)) := by simpa using heap_alloc_new w (.cells #[.slice none 0 0] 69)
 rw [hsz w] at hR; have hR3 := Kd.R_alloc hR (.cells #[.slice (some ⟨w.heap.size + 1, 0, none⟩) 0 0] 67); have hX3 := blk_alloc (blk_alloc hX2 (.cells #[] 92)) (.cells #[.slice (some ⟨w.heap.size + 1, 0, none⟩) 0 0] 67)
 have hgo3 : (((w.alloc (.cells #[.slice none 0 0] 69)).alloc (.cells #[] 92)).alloc (.cells #[.slice (some ⟨w.heap.size + 1, 0, none⟩) 0 0] 67)).heap[w.heap.size + 1 + 1]? = some (.cells #[.slice (some ⟨w.heap.size + 1, 0, none⟩) 0 0] 67 (0, 0)) := by
  have h9 := heap_alloc_new ((w.alloc (.cells #[.slice none 0 0] 69)).alloc (.cells #[] 92)) (.cells #[.slice (some ⟨w.heap.size + 1, 0, none⟩) 0 0] 67); rw [hsz, hsz] at h9; simpa using h9
 have hN3 := ((HN.out.alloc (.cells #[.slice none 0 0] 69)).alloc (.cells #[] 92)).alloc (.cells #[.slice (some ⟨w.heap.size + 1, 0, none⟩) 0 0] 67); have hB3 : Below w.heap.size w (((w.alloc (.cells #[.slice none 0 0] 69)).alloc (.cells #[] 92)).alloc (.cells #[.slice (some ⟨w.heap.size + 1, 0, none⟩) 0 0] 67)) := below_alloc (below_alloc hb1 _) _; clear hb1 hR hX2 hsz; generalize ((w.alloc (.cells #[.slice none 0 0] 69)).alloc (.cells #[] 92)).alloc (.cells #[.slice (some ⟨w.heap.size + 1, 0, none⟩) 0 0] 67) = w3 at *; have hE3 : Ex w0 w3 g (w.heap.size + 1 + 1) toks p v (.slice (some ⟨w.heap.size + 1, 0, none⟩) 0 0) [] (fun q => w.heap.size ≤ q) := ⟨hN3.inn, hN3.pos, hN3.bel, by have := HN.out.bel.size; omega, hgo3, hR3⟩; have hC := (all_con k).2.2.2.2.2 w0 w3 g (w.heap.size + 1 + 1) toks p v _ [] (fun q => w.heap.size ≤ q) (fun q hq => Nat.le_trans hB3.size hq) hE3 r1 H1.out; have HC := am hC; have HB3 := am hB3; have HX3 := am hX3; have hgl : g < w.heap.size := HN.out.inn.lt; have HGL := am hgl; clear hC hE3 hgo3 hR3 hX3 hN3 hB3 H1 hgl; go_upto_region 3 with (go_at_call 77; refine HC.out.mono ?_; rintro e w4 ⟨rfl, ve4, hE4, hF4⟩; have HE4 := am hE4; have HF4 := am hF4; clear hE4 hF4); have hX4 := (HF4.out.same w.heap.size (blk_lt HX3.out) (by have := HGL.out; omega) (by omega) (by simp [Value.ownBlock])).trans HX3.out; have hgo0 : w4.cell? ⟨w.heap.size + 1 + 1, 0, none⟩ = some ve4 := (blk_cell HE4.out.cell 0).trans rfl; have hz0 : w4.cell? ⟨w.heap.size, 0, none⟩ = some (.slice none 0 0) := (blk_cell hX4 0).trans rfl; have hzf := blk_frozen hX4 0; have hcw := (blk_cell (blk_put hX4 0 ve4 rfl) 0).trans (show _ = some ve4 from rfl); obtain ⟨Av, cv, ev⟩ := Kd.R_slice HE4.out.row; have HX4 := am hX4; clear hX4; subst ev; go_wp2; refine bodyPost_ret (results_cell_row rfl _ _ w.heap.size 69 #[.slice Av r1.2.2.length cv] (0, 0) _ rfl (blk_put HX4.out 0 _ rfl) Try.underlying69 rfl (by kernel_rfl)) rfl ?_; have hh : ∀ i, i ≠ w.heap.size → (w4.setCell ⟨w.heap.size, 0, none⟩ (.slice Av r1.2.2.length cv)).heap[i]? = w4.heap[i]? := fun i hi => Below.heap_setCell w4 ⟨w.heap.size, 0, none⟩ _ i hi
 have hk : KeepBut w (w4.setCell ⟨w.heap.size, 0, none⟩ (.slice Av r1.2.2.length cv)) g none := by
  refine ⟨?_, fun i hi hg _ => ?_⟩
  ·have h1 := HB3.out.size; have h2 := HF4.out.size; simp only [World.setCell]; simp
   omega
  ·exact (hh i (by omega)).trans ((HF4.out.same i (Nat.lt_of_lt_of_le hi HB3.out.size) hg (by omega) (by simp [Value.ownBlock]; omega)).trans (HB3.out.block i hi))
 refine ⟨_, rfl, HN.out.keep hk (HE4.out.inn.far (by have := HGL.out; show g ≠ w.heap.size; omega) _) HE4.out.pos (below_set HE4.out.bel HN.out.bel.size), ?_, hk⟩; exact Kd.R_mono (Kd.R_far (p := ⟨w.heap.size, 0, none⟩) (Kd.R_types HE4.out.row HX4.out (by decide)) (fun k hk => hk.2) _) (fun k hk => hk.1)
theorem infoSNode : (Try.prog.info? 98).map (fun i => (i.zero, i.size, i.bytes)) = some (some (.agg #[(.int .i64 0), (.string ⟨#[]⟩), (.slice none 0 0), (.string ⟨#[]⟩), (.slice none 0 0)]), 5, 88) := by kernel_rfl
def rPutN (p : Ps) (out : List S98) (x : S98) : Option (Int × Ps × List S98) := if out.length < 1500000000000 then some ((out.length : Int), ⟨p.at_, p.deep, p.bad || decide (120 < out.length + 1)⟩, out ++ [x]) else none
theorem rPutN_some {p : Ps} {es : List S98} {x : S98} {r : Int × Ps × List S98} (h : rPutN p es x = some r) : es.length < 1500000000000 ∧ r = ((es.length : Int), ⟨p.at_, p.deep, p.bad || decide (120 < es.length + 1)⟩, es ++ [x]) := by
 unfold rPutN at h; by_cases hl : es.length < 1500000000000
 ·rw [if_pos hl] at h; exact ⟨hl, (Option.some.inj h).symm⟩
 ·rw [if_neg hl] at h; exact absurd h (by simp)
theorem Nd.own {w0 w : World} {g : Nat} {toks : List S84} {p : Ps} {v : Value} {out : List S98} {ok : Nat → Prop} (h : Nd w0 w g toks p v out ok) : (some g ≠ v.ownBlock) ∧ ∀ k, v.ownBlock = some k → ok k ∧ w0.heap.size ≤ k ∧ k < w.heap.size := by
 have ho := (Kd.R_bound h.rowne).1; exact ⟨fun e => (ho g e.symm).1.2 rfl, fun k hk => ⟨(ho k hk).1.1, (ho k hk).2.1, (ho k hk).2.2.1⟩⟩
theorem Nd.at4 {w0 w : World} {g : Nat} {toks : List S84} {p : Ps} {v : Value} {out : List S98} {ok : Nat → Prop} (h : Nd w0 w g toks p v out ok) : w.cell? ⟨g, 4, none⟩ = some v ∧ w.cell? ⟨g, 3, none⟩ = some (.bool p.bad) := by
 obtain ⟨A0, c0, hc, _⟩ := h.inn; exact ⟨(blk_cell hc 4).trans rfl, (blk_cell hc 3).trans rfl⟩
theorem Nd.frozenG {w0 w : World} {g : Nat} {toks : List S84} {p : Ps} {v : Value} {out : List S98} {ok : Nat → Prop} (h : Nd w0 w g toks p v out ok) (j : Nat) : w.frozen? ⟨g, j, none⟩ = false := by
 obtain ⟨A0, c0, hc, _⟩ := h.inn; exact blk_frozen hc j
theorem Nd.append {w0 w w3 : World} {g : Nat} {toks : List S84} {p : Ps} {v v2 : Value} {out out2 : List S98} {ok1 ok : Nat → Prop} (h : Nd w0 w g toks p v out ok1) (hg : w.grownBy w3 v.ownBlock) (hb : Below w0.heap.size w w3) (row : Kd.R k98 98 w3 w0.heap.size ok v2 out2) : Nd w0 (w3.setCell ⟨g, 4, none⟩ v2) g toks p v2 out2 ok := by
 have hI := h.inn.grown hg h.own.1; refine ⟨hI.set_4 v2, h.pos, below_set (h.bel.trans hb) h.inn.ge, ?_⟩; exact Kd.R_mono (Kd.R_far (p := ⟨g, 4, none⟩) (hI.apart row (by decide)) (fun k hk => hk.2) v2) (fun k hk => hk.1)
theorem Fr.appendN {w w3 : World} {g : Nat} {v v2 : Value} (j : Nat) (hg : w.grownBy w3 v.ownBlock) (hat : v2.ownBlock = v.ownBlock ∨ ∃ b, v2.ownBlock = some b ∧ w.heap.size ≤ b) : Fr w (w3.setCell ⟨g, j, none⟩ v2) g g v v2 := by
 have hh : ∀ i, i ≠ g → (w3.setCell ⟨g, j, none⟩ v2).heap[i]? = w3.heap[i]? := fun i hi => Below.heap_setCell w3 ⟨g, j, none⟩ v2 i hi
 exact ⟨by simpa [World.setCell] using hg.size, fun i hi hg2 _ hv => (hh i hg2).trans (hg.block i hi (fun e => hv e.symm)), hat⟩
theorem Nd.setBad {w0 w : World} {g : Nat} {toks : List S84} {p : Ps} {v : Value} {out : List S98} {ok : Nat → Prop} (h : Nd w0 w g toks p v out ok) : Nd w0 (w.setCell ⟨g, 3, none⟩ (.bool true)) g toks ⟨p.at_, p.deep, true⟩ v out ok :=
 h.keep (p' := ⟨p.at_, p.deep, true⟩) ((KeepBut.refl w g none).set_ 3 (.bool true)) (h.inn.set_3 true) h.pos (below_set h.bel h.inn.ge)
theorem put_calls (w0 w : World) (g : Nat) (toks : List S84) (p : Ps) (v : Value) (out : List S98) (ok : Nat → Prop) (hok : ∀ q, w.heap.size ≤ q → ok q) (hN : Nd w0 w g toks p v out ok)
  (kind : Int) (text bind : ByteArray) (av kv : Value) (args : List S69) (kids : List Int) (okx : Nat → Prop) (hA : Kd.R k69 69 w w0.heap.size okx av args) (hK : Kd.R (Kd.int .i64) 3 w w0.heap.size okx kv kids) (hx : ∀ q, okx q → q < w.heap.size → ok q ∧ some q ≠ v.ownBlock)
  (r : Int × Ps × List S98) (h : rPutN p out ⟨kind, text, args, bind, kids⟩ = some r) :
  Calls Try.prog 50 #[.pointer (some ⟨g, 0, none⟩), .agg #[.int .i64 kind, .string text, av, .string bind, kv]] w fun e w' => e = .returned (.int .i64 r.1) ∧ ∃ v', Nd w0 w' g toks r.2.1 v' r.2.2 ok ∧ Fr w w' g g v v' := by
 obtain ⟨hl, rfl⟩ := rPutN_some h; have HN := am hN; have HA := am hA; have HK := am hK; have HO := am hok; have HXX := am hx; have HLim := am hl; clear hN hA hK hok hl hx h; go_enter Try.func50, Try.ntmps50; go_wp2; have hN1 := HN.out.alloc (.cells #[.int .i64 kind, .string text, av, .string bind, kv] 98); have hF1 : Fr w (w.alloc (.cells #[.int .i64 kind, .string text, av, .string bind, kv] 98)) g g v v := Fr.below (below_alloc (Below.refl _ _) _); have hA1 := Kd.R_mono (Kd.R_bound (Kd.R_alloc (Kd.R_mono (Kd.R_bound HA.out) (fun k hk => (⟨hk.1, hk.2.2.1⟩ : okx k ∧ k < w.heap.size))) (.cells #[.int .i64 kind, .string text, av, .string bind, kv] 98))) (fun k hk => HXX.out k hk.1.1 hk.1.2); have hK1 := Kd.R_mono (Kd.R_bound (Kd.R_alloc (Kd.R_mono (Kd.R_bound HK.out) (fun k hk => (⟨hk.1, hk.2.2.1⟩ : okx k ∧ k < w.heap.size))) (.cells #[.int .i64 kind, .string text, av, .string bind, kv] 98))) (fun k hk => HXX.out k hk.1.1 hk.1.2); have hX : (w.alloc (.cells #[.int .i64 kind, .string text, av, .string bind, kv] 98)).heap[w.heap.size]? = some (.cells #[.int .i64 kind, .string text, av, .string bind, kv] 98 (0, 0)) := by simpa using heap_alloc_new w (.cells #[.int .i64 kind, .string text, av, .string bind, kv] 98)
 have hO1 : ∀ q, (w.alloc (.cells #[.int .i64 kind, .string text, av, .string bind, kv] 98)).heap.size ≤ q → ok q := fun q hq => HO.out q (Nat.le_trans hF1.size hq)
 clear HN HK HO HA HXX; generalize w.heap.size = gx at *; generalize w.alloc (.cells #[.int .i64 kind, .string text, av, .string bind, kv] 98) = w1 at *; have HN1 := am hN1; have HF1 := am hF1; have HA1 := am hA1; have HK1 := am hK1; have HO1 := am hO1; have hxx0 : w1.cell? ⟨gx, 0, none⟩ = some (.int .i64 kind) := (blk_cell hX 0).trans rfl; have hxx1 : w1.cell? ⟨gx, 1, none⟩ = some (.string text) := (blk_cell hX 1).trans rfl; have hxx2 : w1.cell? ⟨gx, 2, none⟩ = some av := (blk_cell hX 2).trans rfl; have hxx3 : w1.cell? ⟨gx, 3, none⟩ = some (.string bind) := (blk_cell hX 3).trans rfl; have hxx4 : w1.cell? ⟨gx, 4, none⟩ = some kv := (blk_cell hX 4).trans rfl; have hgo0 : w1.cell? ⟨g, 4, none⟩ = some v := HN1.out.at4.1; have hgo1 : ∀ o, (w1.alloc o).cell? ⟨g, 4, none⟩ = some v := fun o => (HN1.out.alloc o).at4.1
 have HSZ1 := am HN1.out.bel.size; clear hN1 hF1 hA1 hK1 hO1 hX; go_region_law (refine Kd.R_append_step (W := w1.drew) (w0 := w1.drew) k98 w0.heap.size ?aW (.tmp 9) (.tmp 11) 50 98 (.agg #[(.int .i64 0), (.string ⟨#[]⟩), (.slice none 0 0), (.string ⟨#[]⟩), (.slice none 0 0)]) 88 ?aH Try.underlying50 infoSNode rfl (by decide) (by decide) v out ⟨kind, text, args, bind, kids⟩ [.int .i64 kind, .string text, av, .string bind, kv] ok (fun q => ok q ∧ some q ≠ v.ownBlock) ?a1 ?a2 ?aP ?aK ?aF ?aO ?aB ?aS ?aL ?_; (case aW => rfl); (case aH => rfl); (case a1 => rfl); (case a2 => rfl); (case aP => exact k98_mkM _ _ _ _ HA1.out HK1.out); (case aK => exact fun k hk => hk); (case aF => exact HO1.out); (case aO => exact HN1.out.row); (case aB => exact Below.refl _ _); (case aS => exact HSZ1.out); (case aL => (have := HLim.out; omega)); intro v2 w3 ho hb hg hat; obtain ⟨Ao, co, eo⟩ := Kd.R_slice ho; subst eo; have hng := HN1.out.inn.grown (show w1.grownBy w3 v.ownBlock from ⟨hg.1, hg.2, hg.3, hg.4, hg.5⟩) HN1.out.own.1; obtain ⟨An, cn, hcn, _⟩ := hng; have hzc : w3.cell? ⟨g, 4, none⟩ = some v := (blk_cell hcn 4).trans rfl; have hzf := blk_frozen hcn 4; have hzf3 := blk_frozen hcn 3; have HO5 := am ho; have HB5 := am hb; have HG5 := am hg; have HAT := am hat; clear ho hb hg hat hcn)
 all_goals (
  refine (‹∀ (a : Act) (w : World), Code.wp Try.prog _ _ a w → _›) _ _ ?_; have hl : (out ++ [(⟨kind, text, args, bind, kids⟩ : S98)]).length = out.length + 1 := by simp
  rw [hl] at HO5 HAT; have hN7 := HN1.out.drew.append HG5.out HB5.out HO5.out; have hF7 := HF1.out.trans (Fr.appendN (w := w1) (g := g) (v := v) 4 ⟨HG5.out.1, HG5.out.2, HG5.out.3, HG5.out.4, HG5.out.5⟩ HAT.out); have hcz := hN7.at4.1; have hcb := hN7.at4.2; have HN7 := am hN7; have HF7 := am hF7; clear hN7 hF7 HO5 HB5 HG5 HAT HN1 HF1 HA1 HK1; have hw : wrap64 ((out.length : Nat) : Int) = (out.length : Int) := by have := HLim.out; unfold wrap64; omega
  by_cases hc : 120 < out.length + 1
  ·have hd : (120 < ((out.length : Nat) : Int) + 1) = True := eq_true (by omega); go_wp2; go_ret; have he : (p.bad || decide (120 < out.length + 1)) = true := by rw [decide_eq_true hc]; simp
   rw [he]; exact ⟨by simp [hw], _, HN7.out.setBad, HF7.out.trans (Fr.of_keep ((KeepBut.refl _ g none).set_ 3 (.bool true)) g _)⟩
  ·have hd : (120 < ((out.length : Nat) : Int) + 1) = False := eq_false (by omega); go_wp2; go_ret; have he : (p.bad || decide (120 < out.length + 1)) = p.bad := by rw [decide_eq_false hc]; simp
   rw [he]
   exact ⟨by simp [hw], _, HN7.out, HF7.out⟩)
section
variable {w0 w : World} {g : Nat} {toks : List S84} {p : Ps} {v : Value} {out : List S98} {ok : Nat → Prop}
theorem Nd.sign (h : Nd w0 w g toks p v out ok) (s : ByteArray) : Calls Try.prog 36 #[.pointer (some ⟨g, 0, none⟩), .string s] w fun e w' => e = .returned (.bool (rSign toks p s).1) ∧ Nd w0 w' g toks (rSign toks p s).2 v out ok ∧ KeepBut w w' g none :=
 (spec_l11Read_sign.calls g toks _ _ _ v s _ _ _ _ _ w0 w h.inn h.bel (sign_eq toks p v s h.pos (inn_max h.inn))).mono fun e w' hh => ⟨hh.1, h.keep hh.2.2.2 hh.2.1 (rSign_pos h.pos) hh.2.2.1, hh.2.2.2⟩
theorem Nd.want (h : Nd w0 w g toks p v out ok) (s : ByteArray) : Calls Try.prog 37 #[.pointer (some ⟨g, 0, none⟩), .string s] w fun e w' => e = .returned (.tuple #[]) ∧ Nd w0 w' g toks (rWant toks p s) v out ok ∧ KeepBut w w' g none :=
 (spec_l11Read_want.calls g toks _ _ _ v s _ _ _ _ w0 w h.inn h.bel (want_eq toks p v s h.pos (inn_max h.inn))).mono fun e w' hh => ⟨hh.1, h.keep hh.2.2.2 hh.2.1 (rWant_pos h.pos) hh.2.2.1, hh.2.2.2⟩
theorem Nd.kind (h : Nd w0 w g toks p v out ok) (k : Int) : Calls Try.prog 35 #[.pointer (some ⟨g, 0, none⟩), .int .i64 k] w fun e w' => e = .returned (.tuple #[.string (rKind toks p k).1, .bool (rKind toks p k).2.1]) ∧ Nd w0 w' g toks (rKind toks p k).2.2 v out ok ∧ KeepBut w w' g none :=
 (spec_l11Read_kind.calls g toks _ _ _ v k _ _ _ _ _ _ w0 w h.inn h.bel (kind_eq toks p v k h.pos (inn_max h.inn))).mono fun e w' hh => ⟨hh.1, h.keep hh.2.2.2 hh.2.1 (rKind_pos h.pos) hh.2.2.1, hh.2.2.2⟩
theorem Nd.down (h : Nd w0 w g toks p v out ok) : Calls Try.prog 47 #[.pointer (some ⟨g, 0, none⟩)] w fun e w' => e = .returned (.tuple #[]) ∧ Nd w0 w' g toks (rDown p) v out ok ∧ KeepBut w w' g none :=
 (spec_l11Read_down.calls g toks _ _ _ v _ _ _ _ w0 w h.inn h.bel (down_eq toks p v)).mono fun e w' hh => ⟨hh.1, h.keep hh.2.2.2 hh.2.1 (rDown_pos h.pos) hh.2.2.1, hh.2.2.2⟩
theorem Nd.up (h : Nd w0 w g toks p v out ok) : Calls Try.prog 49 #[.pointer (some ⟨g, 0, none⟩)] w fun e w' => e = .returned (.tuple #[]) ∧ Nd w0 w' g toks (rUp p) v out ok ∧ KeepBut w w' g none :=
 (spec_l11Read_up.calls g toks _ _ _ v _ _ _ _ w0 w h.inn h.bel rfl).mono fun e w' hh => ⟨hh.1, h.keep (p' := rUp p) hh.2.2.2 hh.2.1 h.pos hh.2.2.1, hh.2.2.2⟩
end
def rArgs : Nat → List S84 → Ps → List S69 → Option (List S69 × Ps)
 | 0, _, _, _ => none
 | k + 1, toks, p, acc => if rIs toks p ⟨#[44]⟩ = true then (rWhole k toks (rSign toks p ⟨#[44]⟩).2).bind fun r => (if acc.length < 5000000000000 then rArgs k toks r.2 (acc ++ [⟨r.1⟩]) else none) else some (acc, p)
def rCallO (k : Nat) (toks : List S84) (p : Ps) (out : List S98) (text bind : ByteArray) : Option (Int × Ps × List S98) :=
 (rWhole k toks p).bind fun r => (rArgs k toks r.2 [⟨r.1⟩]).bind fun a => rPutN (rWant toks a.2 ⟨#[41]⟩) out ⟨3, text, a.1, bind, []⟩
def rCall (k : Nat) (toks : List S84) (p : Ps) (out : List S98) (name : ByteArray) (op : Bool) : Option (Int × Ps × List S98) :=
 if op = true then rCallO k toks p out name ⟨#[]⟩
 else if rIs toks p ⟨#[58]⟩ = true then
  (if (rKind toks (rSign toks p ⟨#[58]⟩).2 1).2.1 = true then rPutN (rKind toks (rSign toks p ⟨#[58]⟩).2 1).2.2 out ⟨3, (rKind toks (rSign toks p ⟨#[58]⟩).2 1).1, [], name, []⟩
   else if (rKind toks (rSign toks p ⟨#[58]⟩).2 6).2.1 = true then rCallO k toks (rKind toks (rSign toks p ⟨#[58]⟩).2 6).2.2 out (rKind toks (rSign toks p ⟨#[58]⟩).2 6).1 name
   else rPutN ⟨(rSign toks p ⟨#[58]⟩).2.at_, (rSign toks p ⟨#[58]⟩).2.deep, true⟩ out ⟨3, (rKind toks (rSign toks p ⟨#[58]⟩).2 6).1, [], name, []⟩)
 else rPutN p out ⟨3, name, [], ⟨#[]⟩, []⟩
theorem Nd.far {w0 w : World} {g gx : Nat} {toks : List S84} {p : Ps} {v : Value} {out : List S98} {ok : Nat → Prop} (h : Nd w0 w g toks p v out ok) (hx : ∀ q, ok q → q ≠ gx) (hg : g ≠ gx) (h0 : w0.heap.size ≤ gx) (j : Nat) (u : Value) : Nd w0 (w.setCell ⟨gx, j, none⟩ u) g toks p v out ok :=
 ⟨h.inn.far hg u, h.pos, below_set h.bel h0, Kd.R_far (p := ⟨gx, j, none⟩) h.row hx u⟩
theorem Nd.grown {w0 w w3 : World} {g : Nat} {toks : List S84} {p : Ps} {v : Value} {out : List S98} {ok : Nat → Prop} {row : Option Nat} (h : Nd w0 w g toks p v out ok) (hg : w.grownBy w3 row) (h1 : some g ≠ row) (hx : ∀ q, ok q → some q ≠ row) (hb : Below w0.heap.size w w3) : Nd w0 w3 g toks p v out ok :=
 ⟨h.inn.grown hg h1, h.pos, h.bel.trans hb, Kd.R_grown h.row hg hx⟩
structure Cx (w0 w wl : World) (g gx : Nat) (toks : List S84) (p : Ps) (v : Value) (out : List S98) (ok : Nat → Prop) (text bind : ByteArray) (av : Value) (args : List S69) : Prop where
 nd : Nd w0 wl g toks p v out (fun q => ok q ∧ q < gx)
 keep : KeepBut w wl g none
 box : wl.heap[gx]? = some (.cells #[.int .i64 3, .string text, av, .string bind, .slice none 0 0] 98 (0, 0))
 new : gx = w.heap.size
 lt : g < gx
 base : w0.heap.size ≤ gx
 row : Kd.R k69 69 wl w0.heap.size (fun q => gx < q) av args
section
variable {w0 w wl w2 : World} {g gx : Nat} {toks : List S84} {p p' : Ps} {v av : Value} {out : List S98} {ok : Nat → Prop} {text bind : ByteArray} {args : List S69}
theorem Cx.new_ (h : Nd w0 w g toks p v out ok) (text : ByteArray) : Cx w0 w (w.alloc (.cells #[.int .i64 3, .string text, .slice none 0 0, .string ⟨#[]⟩, .slice none 0 0] 98)) g w.heap.size toks p v out ok text ⟨#[]⟩ (.slice none 0 0) [] :=
 ⟨(h.mono (fun q hq hl => ⟨hq, hl⟩)).alloc _, KeepBut.of_below (below_alloc (Below.refl _ _) _) g none, by simpa using heap_alloc_new w _, rfl, h.inn.lt, h.bel.size, Kd.R_nil _ _ _ _ _⟩
theorem Cx.move (h : Cx w0 w wl g gx toks p v out ok text bind av args) (hk : KeepBut wl w2 g none) (hN : Nd w0 w2 g toks p' v out (fun q => ok q ∧ q < gx)) : Cx w0 w w2 g gx toks p' v out ok text bind av args := by
 have := h.lt; exact ⟨hN, h.keep.trans hk (.inl rfl), (hk.2 gx (blk_lt h.box) (by omega) (by simp)).trans h.box, h.new, h.lt, h.base, Kd.R_keep h.row hk (fun k hk => by omega)⟩
theorem Cx.set (h : Cx w0 w wl g gx toks p v out ok text bind av args) (j : Nat) (u : Value) {text2 bind2 : ByteArray} (hb : (wl.setCell ⟨gx, j, none⟩ u).heap[gx]? = some (.cells #[.int .i64 3, .string text2, av, .string bind2, .slice none 0 0] 98 (0, 0))) : Cx w0 w (wl.setCell ⟨gx, j, none⟩ u) g gx toks p v out ok text2 bind2 av args := by
 have hlt := h.lt; have hn := h.new; refine ⟨h.nd.far (fun q hq => by omega) (by omega) h.base j u, ⟨by have := h.keep.1; simp [World.setCell]; omega, fun i hi hg hr => (Below.heap_setCell wl ⟨gx, j, none⟩ u i (by show i ≠ gx; omega)).trans (h.keep.2 i hi hg hr)⟩, hb, hn, hlt, h.base, Kd.R_far (p := ⟨gx, j, none⟩) h.row (fun k hk => by show k ≠ gx; omega) u⟩
theorem Cx.set1 (h : Cx w0 w wl g gx toks p v out ok text bind av args) (s : ByteArray) : Cx w0 w (wl.setCell ⟨gx, 1, none⟩ (.string s)) g gx toks p v out ok s bind av args := h.set 1 _ (blk_put h.box 1 _ rfl)
theorem Cx.set3 (h : Cx w0 w wl g gx toks p v out ok text bind av args) (s : ByteArray) : Cx w0 w (wl.setCell ⟨gx, 3, none⟩ (.string s)) g gx toks p v out ok text s av args := h.set 3 _ (blk_put h.box 3 _ rfl)
theorem Cx.bad (h : Cx w0 w wl g gx toks p v out ok text bind av args) : Cx w0 w (wl.setCell ⟨g, 3, none⟩ (.bool true)) g gx toks ⟨p.at_, p.deep, true⟩ v out ok text bind av args := h.move ((KeepBut.refl wl g none).set_ 3 (.bool true)) h.nd.setBad
theorem Cx.cells (h : Cx w0 w wl g gx toks p v out ok text bind av args) : wl.cell? ⟨gx, 0, none⟩ = some (.int .i64 3) ∧ wl.cell? ⟨gx, 1, none⟩ = some (.string text) ∧ wl.cell? ⟨gx, 2, none⟩ = some av ∧ wl.cell? ⟨gx, 3, none⟩ = some (.string bind) ∧ wl.cell? ⟨gx, 4, none⟩ = some (.slice none 0 0) := ⟨(blk_cell h.box 0).trans rfl, (blk_cell h.box 1).trans rfl, (blk_cell h.box 2).trans rfl, (blk_cell h.box 3).trans rfl, (blk_cell h.box 4).trans rfl⟩
theorem Cx.frozen (h : Cx w0 w wl g gx toks p v out ok text bind av args) (j : Nat) : wl.frozen? ⟨gx, j, none⟩ = false := blk_frozen h.box j
theorem Cx.drew (h : Cx w0 w wl g gx toks p v out ok text bind av args) : Cx w0 w wl.drew g gx toks p v out ok text bind av args := ⟨h.nd.drew, h.keep.trans (KeepBut.of_below (below_drew (Below.refl _ _)) g none) (.inl rfl), h.box, h.new, h.lt, h.base, Kd.R_drew h.row⟩
theorem Cx.own (h : Cx w0 w wl g gx toks p v out ok text bind av args) : ∀ k, av.ownBlock = some k → gx < k ∧ k < wl.heap.size := fun k hk => ⟨((Kd.R_bound h.row).1 k hk).1, ((Kd.R_bound h.row).1 k hk).2.2.1⟩
theorem Cx.put {w3 : World} {av2 : Value} {args2 : List S69} (h : Cx w0 w wl g gx toks p v out ok text bind av args) (hg : wl.grownBy w3 av.ownBlock) (hb : Below w0.heap.size wl w3) (row : Kd.R k69 69 w3 w0.heap.size (fun q => gx < q) av2 args2) : Cx w0 w (w3.setCell ⟨gx, 2, none⟩ av2) g gx toks p v out ok text bind av2 args2 := by
 have hlt := h.lt; have hn := h.new; have ho := h.own; have hx3 := blk_grown h.box hg (fun e => by have := ho gx e.symm; omega); refine ⟨(h.nd.grown hg (fun e => by have := ho g e.symm; omega) (fun q hq e => by have := ho q e.symm; omega) hb).far (fun q hq => by omega) (by omega) h.base 2 av2, ⟨?_, fun i hi hgi hr => ?_⟩, blk_put hx3 2 av2 rfl, hn, hlt, h.base, Kd.R_far (p := ⟨gx, 2, none⟩) row (fun k hk => by show k ≠ gx; omega) av2⟩
 ·have := h.keep.1; have := hg.size; simp [World.setCell]; omega
 ·refine (Below.heap_setCell w3 ⟨gx, 2, none⟩ av2 i (by show i ≠ gx; omega)).trans ((hg.block i (Nat.lt_of_lt_of_le hi h.keep.1) (fun e => by have := ho i e.symm; omega)).trans (h.keep.2 i hi hgi hr))
theorem Cx.putc (h : Cx w0 w wl g gx toks p v out ok text bind av args) (hok : ∀ q, w.heap.size ≤ q → ok q) (r : Int × Ps × List S98) (hr : rPutN p out ⟨3, text, args, bind, []⟩ = some r) :
  Calls Try.prog 50 #[.pointer (some ⟨g, 0, none⟩), .agg #[.int .i64 3, .string text, av, .string bind, .slice none 0 0]] wl fun e w' => e = .returned (.int .i64 r.1) ∧ ∃ v', Nd w0 w' g toks r.2.1 v' r.2.2 ok ∧ Fr w w' g g v v' := by
 have hn := h.new; have hs := h.keep.1; refine (put_calls w0 wl g toks p v out ok (fun q hq => hok q (Nat.le_trans hs hq)) (h.nd.mono (fun q hq _ => hq.1)) 3 text bind av (.slice none 0 0) args [] (fun q => gx < q) h.row (Kd.R_nil _ _ _ _ _) (fun q hq hl => ⟨hok q (by omega), fun e => ?_⟩) r hr).mono ?_
 ·have := h.nd.own.2 q e.symm; omega
 ·rintro e w' ⟨he, v', hN, hF⟩; exact ⟨he, v', hN, (Fr.of_keep h.keep g v).trans hF⟩
end
set_option maxHeartbeats 16000000 in
theorem call_calls (k : Nat) (w0 w : World) (g : Nat) (toks : List S84) (p : Ps) (v : Value) (out : List S98) (ok : Nat → Prop) (hok : ∀ q, w.heap.size ≤ q → ok q) (hN : Nd w0 w g toks p v out ok) (name : ByteArray) (op : Bool) (r : Int × Ps × List S98) (h : rCall k toks p out name op = some r) :
  Calls Try.prog 71 #[.pointer (some ⟨g, 0, none⟩), .string name, .bool op] w fun e w' => e = .returned (.int .i64 r.1) ∧ ∃ v', Nd w0 w' g toks r.2.1 v' r.2.2 ok ∧ Fr w w' g g v v' := by
 have HN := am hN; have HO := am hok; clear hN hok; unfold rCall at h
 cases op with
 | true =>
  rw [if_pos rfl] at h; go_enter Try.func71, Try.ntmps71; go_upto_region 2 with fail; have hX := Cx.new_ HN.out name; generalize w.heap.size = gx at hX ⊢; generalize w.alloc (.cells #[.int .i64 3, .string name, .slice none 0 0, .string ⟨#[]⟩, .slice none 0 0] 98) = wb at hX ⊢; have HXa := am hX; clear hX
  go_upto_region 11 with fail; obtain ⟨wx, hwx⟩ : ∃ wx, wx = wb := ⟨_, rfl⟩; subst hwx; have HX := HXa; clear HXa; unfold rCallO at h; obtain ⟨r1, h1, h⟩ := Option.bind_eq_some_iff.mp h; obtain ⟨a1, h2, h⟩ := Option.bind_eq_some_iff.mp h; have HH := am h; have H2 := am h2; have HC := am (whole_calls k w0 wx.drew g toks _ v out _ HX.out.nd.drew r1 h1); have HAF := am (show ∀ q, wx.drew.heap.size ≤ q → gx < q from fun q hq => Nat.lt_of_lt_of_le (blk_lt HX.out.box) hq); have HAK := am (show ∀ q, wx.drew.heap.size ≤ q → gx < q ∧ some q ≠ (Value.slice none 0 0).ownBlock from fun q hq => ⟨HAF.out q hq, by simp [Value.ownBlock]⟩); have hx2 := HX.out.cells.2.2.1; have HLim := am (show ([] : List S69).length < 5000000000000 by decide); clear h h1 h2; go_region_law (first | (refine Kd.R_append_step (W := w4) (w0 := w4) k69 w0.heap.size ?aW (.tmp 41) (.tmp 44) 64 69 (.agg #[(.slice none 0 0)]) 24 ?aH Try.underlying64 infExp rfl (by decide) (by decide) (.slice none 0 0) [] ⟨r1.1⟩ [ve4] (fun q => gx < q) (fun q => wx.drew.heap.size ≤ q) ?a1 ?a2 ?aP ?aK ?aF ?aO ?aB ?aS ?aL ?_; (case aW => rfl); (case aH => rfl); (case a1 => rfl); (case a2 => rfl); (case aP => exact k69_mkM _ _ _ _ HV4.out); (case aK => exact HAK.out); (case aF => exact fun q hq => HAF.out q (Nat.le_trans HK4.out.1 hq)); (case aO => exact HX4.out.row); (case aB => exact Below.refl _ _); (case aS => exact HX4.out.nd.bel.size); (case aL => (have := HLim.out; omega)); intro av3 w3 ho hb hg hat; obtain ⟨Ao, co, eo⟩ := Kd.R_slice ho; subst eo; have hx3 := blk_grown HX4.out.box hg (fun e => by have := HX4.out.own gx e.symm; omega); have hzc : w3.cell? ⟨gx, 2, none⟩ = some (.slice none 0 0) := (blk_cell hx3 2).trans rfl; have hzf := blk_frozen hx3 2; have HO5 := am ho; have HB5 := am hb; have HG5 := am hg; have HAT := am hat; clear ho hb hg hat hx3) | (go_simp; go_at_call 72; refine HC.out.mono ?_; rintro e w4 ⟨ve4, rfl, hN4, hV4, hk4⟩; have HX4 := am (HX.out.drew.move hk4 hN4); have HV4 := am hV4; have HK4 := am hk4; have hx4 := HX4.out.cells.2.2.1; have hx4b : ∀ o, (w4.alloc o).cell? ⟨gx, 2, none⟩ = w4.cell? ⟨gx, 2, none⟩ := fun o => (blk_cell (blk_alloc HX4.out.box o) 2).trans (blk_cell HX4.out.box 2).symm; clear hN4 hV4 hk4))
  all_goals (
   refine (‹∀ (a : Act) (w : World), Code.wp Try.prog _ _ a w → _›) _ _ ?_; have HX5 := am (HX4.out.put HG5.out HB5.out HO5.out); have hh2 : rArgs k toks r1.2 [⟨r1.1⟩] = some a1 := H2.out; have HH2 := am hh2; clear HO5 HB5 HG5 HAT HX4 HC HAF HAK HX hzc hzf hx2 HLim HV4 HK4 H2 hh2; go_wp2; go_loopg [] k (fun kq w' => ∃ (p1 : Ps) (args1 : List S69) (av1 : Value), Aside0 (rArgs kq toks p1 args1 = some a1) ∧ Aside0 (Cx w0 w w' g gx toks p1 v out ok name ⟨#[]⟩ av1 args1))
   case atStart => exact ⟨_, _, _, HH2, HX5⟩
   case round =>
    clear HX5 HH2; obtain ⟨p1, args1, av1, HA, HX5⟩ := hrel
    cases gk with
    | zero => exact absurd HA.out (by simp [rArgs])
    | succ kq =>
     have H := HA.out; clear HA; simp only [rArgs] at H; by_cases d1 : rIs toks p1 ⟨#[44]⟩ = true
     ·rw [if_pos d1] at H; obtain ⟨r2, H1, H⟩ := Option.bind_eq_some_iff.mp H; by_cases hlim : args1.length < 5000000000000
      case neg => rw [if_neg hlim] at H; exact absurd H (by simp)
      rw [if_pos hlim] at H; have HLim := am hlim; have HQ := am H; have HQ1 := am H1; have hs := sgT d1; clear H H1 hlim d1; go_upto_region 13 with (go_at_call 36; (with_reducible refine (HX5.out.nd.sign ⟨#[44]⟩).mono ?_); rw [hs]; rintro e w6 ⟨rfl, hN6, hk6⟩; have HX6 := am (HX5.out.move hk6 hN6); clear hN6 hk6); obtain ⟨Aa, ca, ea⟩ := Kd.R_slice HX6.out.row; subst ea; have HC := am (whole_calls kq w0 w6.drew g toks _ v out _ HX6.out.nd.drew r2 HQ1.out); have HAF := am (show ∀ q, w6.drew.heap.size ≤ q → gx < q from fun q hq => Nat.lt_of_lt_of_le (blk_lt HX6.out.box) hq); have HAK := am (show ∀ q, w6.drew.heap.size ≤ q → gx < q ∧ some q ≠ (Value.slice Aa args1.length ca).ownBlock from fun q hq => ⟨HAF.out q hq, fun e => by have h8 := HX6.out.own q e.symm; have h9 : w6.heap.size ≤ q := hq; omega⟩); have hx2 := HX6.out.cells.2.2.1; clear HX5 HQ1; go_region_law (first | (refine Kd.R_append_step (W := w4) (w0 := w4) k69 w0.heap.size ?aW (.tmp 50) (.tmp 53) 64 69 (.agg #[(.slice none 0 0)]) 24 ?aH Try.underlying64 infExp rfl (by decide) (by decide) (.slice Aa args1.length ca) args1 ⟨r2.1⟩ [ve4] (fun q => gx < q) (fun q => w6.drew.heap.size ≤ q) ?a1 ?a2 ?aP ?aK ?aF ?aO ?aB ?aS ?aL ?_; (case aW => rfl); (case aH => rfl); (case a1 => rfl); (case a2 => rfl); (case aP => exact k69_mkM _ _ _ _ HV4.out); (case aK => exact HAK.out); (case aF => exact fun q hq => HAF.out q (Nat.le_trans HK4.out.1 hq)); (case aO => exact HX4.out.row); (case aB => exact Below.refl _ _); (case aS => exact HX4.out.nd.bel.size); (case aL => (have := HLim.out; omega)); intro av3 w3 ho hb hg hat; obtain ⟨Ao, co, eo⟩ := Kd.R_slice ho; subst eo; have hx3 := blk_grown HX4.out.box hg (fun e => by have := HX4.out.own gx e.symm; omega); have hzc : w3.cell? ⟨gx, 2, none⟩ = some (.slice Aa args1.length ca) := (blk_cell hx3 2).trans rfl; have hzf := blk_frozen hx3 2; have HO5 := am ho; have HB5 := am hb; have HG5 := am hg; have HAT := am hat; clear ho hb hg hat hx3) | (go_simp; go_at_call 72; refine HC.out.mono ?_; rintro e w4 ⟨ve4, rfl, hN4, hV4, hk4⟩; have HX4 := am (HX6.out.drew.move hk4 hN4); have HV4 := am hV4; have HK4 := am hk4; have hx4 := HX4.out.cells.2.2.1; have hx4b : ∀ o, (w4.alloc o).cell? ⟨gx, 2, none⟩ = w4.cell? ⟨gx, 2, none⟩ := fun o => (blk_cell (blk_alloc HX4.out.box o) 2).trans (blk_cell HX4.out.box 2).symm; clear hN4 hV4 hk4))
      all_goals (
       have HX7 := am (HX4.out.put HG5.out HB5.out HO5.out); have hl7 : (args1 ++ [(⟨r2.1⟩ : S69)]).length = args1.length + 1 := by simp
       rw [hl7] at HX7; clear HO5 HB5 HG5 HAT HX4 HC HAF HAK HX6 hzc hzf hx2 HLim HV4 HK4; go_wp2; go_roundg kq
       case measure => exact Nat.lt_succ_self _
       case rel => exact ⟨_, _, _, HQ, HX7⟩)
     ·rw [if_neg d1] at H; obtain rfl := si H; have hs := sgF d1; have hp := sgP d1; clear H d1
      go_wp2_with (first
       | (go_at_call 36; (with_reducible refine (HX5.out.nd.sign ⟨#[44]⟩).mono ?_); rw [hs, hp]; rintro e w6 ⟨rfl, hN6, hk6⟩; have HX6 := am (HX5.out.move hk6 hN6); clear hN6 hk6)
       | (go_at_call 37; refine (HX6.out.nd.want ⟨#[41]⟩).mono ?_; rintro e w7 ⟨rfl, hN7, hk7⟩; have HX7 := am (HX6.out.move hk7 hN7); obtain ⟨hy0, hy1, hy2, hy3, hy4⟩ := HX7.out.cells; clear hN7 hk7)
       | (go_at_call 50; refine (HX7.out.putc HO.out r HH.out).mono ?_; rintro e w8 ⟨rfl, v8, hN8, hF8⟩; have HN8 := am hN8; have HF8 := am hF8; clear hN8 hF8))
      go_ret
      exact ⟨rfl, _, HN8.out, HF8.out⟩)
 | false =>
  rw [if_neg (by decide)] at h; by_cases c1 : rIs toks p ⟨#[58]⟩ = true
  ·rw [if_pos c1] at h; have hs1 := sgT c1; clear c1; by_cases c2 : (rKind toks (rSign toks p ⟨#[58]⟩).2 1).2.1 = true
   ·rw [if_pos c2] at h; go_enter Try.func71, Try.ntmps71; go_upto_region 2 with fail; have hX := Cx.new_ HN.out name; generalize w.heap.size = gx at hX ⊢; generalize w.alloc (.cells #[.int .i64 3, .string name, .slice none 0 0, .string ⟨#[]⟩, .slice none 0 0] 98) = wb at hX ⊢; have HXa := am hX; clear hX
    go_wp2_with (first
     | (go_at_call 36; (with_reducible refine (HXa.out.nd.sign ⟨#[58]⟩).mono ?_); rw [hs1]; rintro e w1 ⟨rfl, hN1, hk1⟩; have HXb := am (HXa.out.move hk1 hN1); have hz3 := HXb.out.cells.2.2.2.1; have hf3 := HXb.out.frozen 3; have HXc := am (HXb.out.set3 name); clear hN1 hk1)
     | (go_at_call 35; (with_reducible refine (HXc.out.nd.kind 1).mono ?_); rw [c2]; rintro e w2 ⟨rfl, hN2, hk2⟩; have HXd := am (HXc.out.move hk2 hN2); have hz1 := HXd.out.cells.2.1; have hf1 := HXd.out.frozen 1; have HX := am (HXd.out.set1 (rKind toks (rSign toks p ⟨#[58]⟩).2 1).1); obtain ⟨hy0, hy1, hy2, hy3, hy4⟩ := HX.out.cells; clear hN2 hk2)
     | (go_at_call 50; refine (HX.out.putc HO.out r h).mono ?_; rintro e w8 ⟨rfl, v8, hN8, hF8⟩; have HN8 := am hN8; have HF8 := am hF8; clear hN8 hF8))
    go_ret; exact ⟨rfl, _, HN8.out, HF8.out⟩
   ·rw [if_neg c2] at h; have hs2 : (rKind toks (rSign toks p ⟨#[58]⟩).2 1).2.1 = false := by simpa using c2
    have hp2 := kdP c2; clear c2; by_cases c3 : (rKind toks (rSign toks p ⟨#[58]⟩).2 6).2.1 = true
    ·rw [if_pos c3] at h; go_enter Try.func71, Try.ntmps71; go_upto_region 2 with fail; have hX := Cx.new_ HN.out name; generalize w.heap.size = gx at hX ⊢; generalize w.alloc (.cells #[.int .i64 3, .string name, .slice none 0 0, .string ⟨#[]⟩, .slice none 0 0] 98) = wb at hX ⊢; have HXa := am hX; clear hX
     go_upto_region 11 with (first
      | (go_at_call 36; (with_reducible refine (HXa.out.nd.sign ⟨#[58]⟩).mono ?_); rw [hs1]; rintro e w1 ⟨rfl, hN1, hk1⟩; have HXb := am (HXa.out.move hk1 hN1); have hz3 := HXb.out.cells.2.2.2.1; have hf3 := HXb.out.frozen 3; have HXc := am (HXb.out.set3 name); clear hN1 hk1)
      | (go_at_call 35; (with_reducible refine (HXc.out.nd.kind 1).mono ?_); rw [hs2, hp2]; rintro e w2 ⟨rfl, hN2, hk2⟩; have HXd := am (HXc.out.move hk2 hN2); clear hN2 hk2)
      | (go_at_call 35; (with_reducible refine (HXd.out.nd.kind 6).mono ?_); rw [c3]; rintro e w7 ⟨rfl, hN7, hk7⟩; have HXe := am (HXd.out.move hk7 hN7); have hz1 := HXe.out.cells.2.1; have hf1 := HXe.out.frozen 1; have HX := am (HXe.out.set1 (rKind toks (rSign toks p ⟨#[58]⟩).2 6).1); clear hN7 hk7))
     generalize w7.setCell ⟨gx, 1, none⟩ (.string (rKind toks (rSign toks p ⟨#[58]⟩).2 6).1) = wx at *; unfold rCallO at h; obtain ⟨r1, h1, h⟩ := Option.bind_eq_some_iff.mp h; obtain ⟨a1, h2, h⟩ := Option.bind_eq_some_iff.mp h; have HH := am h; have H2 := am h2; have HC := am (whole_calls k w0 wx.drew g toks _ v out _ HX.out.nd.drew r1 h1); have HAF := am (show ∀ q, wx.drew.heap.size ≤ q → gx < q from fun q hq => Nat.lt_of_lt_of_le (blk_lt HX.out.box) hq); have HAK := am (show ∀ q, wx.drew.heap.size ≤ q → gx < q ∧ some q ≠ (Value.slice none 0 0).ownBlock from fun q hq => ⟨HAF.out q hq, by simp [Value.ownBlock]⟩); have hx2 := HX.out.cells.2.2.1; have HLim := am (show ([] : List S69).length < 5000000000000 by decide); clear h h1 h2; go_region_law (first | (refine Kd.R_append_step (W := w4) (w0 := w4) k69 w0.heap.size ?aW (.tmp 41) (.tmp 44) 64 69 (.agg #[(.slice none 0 0)]) 24 ?aH Try.underlying64 infExp rfl (by decide) (by decide) (.slice none 0 0) [] ⟨r1.1⟩ [ve4] (fun q => gx < q) (fun q => wx.drew.heap.size ≤ q) ?a1 ?a2 ?aP ?aK ?aF ?aO ?aB ?aS ?aL ?_; (case aW => rfl); (case aH => rfl); (case a1 => rfl); (case a2 => rfl); (case aP => exact k69_mkM _ _ _ _ HV4.out); (case aK => exact HAK.out); (case aF => exact fun q hq => HAF.out q (Nat.le_trans HK4.out.1 hq)); (case aO => exact HX4.out.row); (case aB => exact Below.refl _ _); (case aS => exact HX4.out.nd.bel.size); (case aL => (have := HLim.out; omega)); intro av3 w3 ho hb hg hat; obtain ⟨Ao, co, eo⟩ := Kd.R_slice ho; subst eo; have hx3 := blk_grown HX4.out.box hg (fun e => by have := HX4.out.own gx e.symm; omega); have hzc : w3.cell? ⟨gx, 2, none⟩ = some (.slice none 0 0) := (blk_cell hx3 2).trans rfl; have hzf := blk_frozen hx3 2; have HO5 := am ho; have HB5 := am hb; have HG5 := am hg; have HAT := am hat; clear ho hb hg hat hx3) | (go_simp; go_at_call 72; refine HC.out.mono ?_; rintro e w4 ⟨ve4, rfl, hN4, hV4, hk4⟩; have HX4 := am (HX.out.drew.move hk4 hN4); have HV4 := am hV4; have HK4 := am hk4; have hx4 := HX4.out.cells.2.2.1; have hx4b : ∀ o, (w4.alloc o).cell? ⟨gx, 2, none⟩ = w4.cell? ⟨gx, 2, none⟩ := fun o => (blk_cell (blk_alloc HX4.out.box o) 2).trans (blk_cell HX4.out.box 2).symm; clear hN4 hV4 hk4))
     all_goals (
      refine (‹∀ (a : Act) (w : World), Code.wp Try.prog _ _ a w → _›) _ _ ?_; have HX5 := am (HX4.out.put HG5.out HB5.out HO5.out); have hh2 : rArgs k toks r1.2 [⟨r1.1⟩] = some a1 := H2.out; have HH2 := am hh2; clear HO5 HB5 HG5 HAT HX4 HC HAF HAK HX hzc hzf hx2 HLim HV4 HK4 H2 hh2; go_wp2; go_loopg [] k (fun kq w' => ∃ (p1 : Ps) (args1 : List S69) (av1 : Value), Aside0 (rArgs kq toks p1 args1 = some a1) ∧ Aside0 (Cx w0 w w' g gx toks p1 v out ok _ name av1 args1))
      case atStart => exact ⟨_, _, _, HH2, HX5⟩
      case round =>
       clear HX5 HH2; obtain ⟨p1, args1, av1, HA, HX5⟩ := hrel
       cases gk with
       | zero => exact absurd HA.out (by simp [rArgs])
       | succ kq =>
        have H := HA.out; clear HA; simp only [rArgs] at H; by_cases d1 : rIs toks p1 ⟨#[44]⟩ = true
        ·rw [if_pos d1] at H; obtain ⟨r2, H1, H⟩ := Option.bind_eq_some_iff.mp H; by_cases hlim : args1.length < 5000000000000
         case neg => rw [if_neg hlim] at H; exact absurd H (by simp)
         rw [if_pos hlim] at H; have HLim := am hlim; have HQ := am H; have HQ1 := am H1; have hs := sgT d1; clear H H1 hlim d1; go_upto_region 13 with (go_at_call 36; (with_reducible refine (HX5.out.nd.sign ⟨#[44]⟩).mono ?_); rw [hs]; rintro e w6 ⟨rfl, hN6, hk6⟩; have HX6 := am (HX5.out.move hk6 hN6); clear hN6 hk6); obtain ⟨Aa, ca, ea⟩ := Kd.R_slice HX6.out.row; subst ea; have HC := am (whole_calls kq w0 w6.drew g toks _ v out _ HX6.out.nd.drew r2 HQ1.out); have HAF := am (show ∀ q, w6.drew.heap.size ≤ q → gx < q from fun q hq => Nat.lt_of_lt_of_le (blk_lt HX6.out.box) hq); have HAK := am (show ∀ q, w6.drew.heap.size ≤ q → gx < q ∧ some q ≠ (Value.slice Aa args1.length ca).ownBlock from fun q hq => ⟨HAF.out q hq, fun e => by have h8 := HX6.out.own q e.symm; have h9 : w6.heap.size ≤ q := hq; omega⟩); have hx2 := HX6.out.cells.2.2.1; clear HX5 HQ1; go_region_law (first | (refine Kd.R_append_step (W := w4) (w0 := w4) k69 w0.heap.size ?aW (.tmp 50) (.tmp 53) 64 69 (.agg #[(.slice none 0 0)]) 24 ?aH Try.underlying64 infExp rfl (by decide) (by decide) (.slice Aa args1.length ca) args1 ⟨r2.1⟩ [ve4] (fun q => gx < q) (fun q => w6.drew.heap.size ≤ q) ?a1 ?a2 ?aP ?aK ?aF ?aO ?aB ?aS ?aL ?_; (case aW => rfl); (case aH => rfl); (case a1 => rfl); (case a2 => rfl); (case aP => exact k69_mkM _ _ _ _ HV4.out); (case aK => exact HAK.out); (case aF => exact fun q hq => HAF.out q (Nat.le_trans HK4.out.1 hq)); (case aO => exact HX4.out.row); (case aB => exact Below.refl _ _); (case aS => exact HX4.out.nd.bel.size); (case aL => (have := HLim.out; omega)); intro av3 w3 ho hb hg hat; obtain ⟨Ao, co, eo⟩ := Kd.R_slice ho; subst eo; have hx3 := blk_grown HX4.out.box hg (fun e => by have := HX4.out.own gx e.symm; omega); have hzc : w3.cell? ⟨gx, 2, none⟩ = some (.slice Aa args1.length ca) := (blk_cell hx3 2).trans rfl; have hzf := blk_frozen hx3 2; have HO5 := am ho; have HB5 := am hb; have HG5 := am hg; have HAT := am hat; clear ho hb hg hat hx3) | (go_simp; go_at_call 72; refine HC.out.mono ?_; rintro e w4 ⟨ve4, rfl, hN4, hV4, hk4⟩; have HX4 := am (HX6.out.drew.move hk4 hN4); have HV4 := am hV4; have HK4 := am hk4; have hx4 := HX4.out.cells.2.2.1; have hx4b : ∀ o, (w4.alloc o).cell? ⟨gx, 2, none⟩ = w4.cell? ⟨gx, 2, none⟩ := fun o => (blk_cell (blk_alloc HX4.out.box o) 2).trans (blk_cell HX4.out.box 2).symm; clear hN4 hV4 hk4))
         all_goals (
          have HX7 := am (HX4.out.put HG5.out HB5.out HO5.out); have hl7 : (args1 ++ [(⟨r2.1⟩ : S69)]).length = args1.length + 1 := by simp
          rw [hl7] at HX7; clear HO5 HB5 HG5 HAT HX4 HC HAF HAK HX6 hzc hzf hx2 HLim HV4 HK4; go_wp2; go_roundg kq
          case measure => exact Nat.lt_succ_self _
          case rel => exact ⟨_, _, _, HQ, HX7⟩)
        ·rw [if_neg d1] at H; obtain rfl := si H; have hs := sgF d1; have hp := sgP d1; clear H d1
         go_wp2_with (first
          | (go_at_call 36; (with_reducible refine (HX5.out.nd.sign ⟨#[44]⟩).mono ?_); rw [hs, hp]; rintro e w6 ⟨rfl, hN6, hk6⟩; have HX6 := am (HX5.out.move hk6 hN6); clear hN6 hk6)
          | (go_at_call 37; refine (HX6.out.nd.want ⟨#[41]⟩).mono ?_; rintro e w7 ⟨rfl, hN7, hk7⟩; have HX7 := am (HX6.out.move hk7 hN7); obtain ⟨hy0, hy1, hy2, hy3, hy4⟩ := HX7.out.cells; clear hN7 hk7)
          | (go_at_call 50; refine (HX7.out.putc HO.out r HH.out).mono ?_; rintro e w8 ⟨rfl, v8, hN8, hF8⟩; have HN8 := am hN8; have HF8 := am hF8; clear hN8 hF8))
         go_ret
         exact ⟨rfl, _, HN8.out, HF8.out⟩)
    ·rw [if_neg c3] at h; have hs3 : (rKind toks (rSign toks p ⟨#[58]⟩).2 6).2.1 = false := by simpa using c3
     have hp3 := kdP c3; clear c3; go_enter Try.func71, Try.ntmps71; go_upto_region 2 with fail; have hX := Cx.new_ HN.out name; generalize w.heap.size = gx at hX ⊢; generalize w.alloc (.cells #[.int .i64 3, .string name, .slice none 0 0, .string ⟨#[]⟩, .slice none 0 0] 98) = wb at hX ⊢; have HXa := am hX; clear hX
     go_wp2_with (first
      | (go_at_call 36; (with_reducible refine (HXa.out.nd.sign ⟨#[58]⟩).mono ?_); rw [hs1]; rintro e w1 ⟨rfl, hN1, hk1⟩; have HXb := am (HXa.out.move hk1 hN1); have hz3 := HXb.out.cells.2.2.2.1; have hf3 := HXb.out.frozen 3; have HXc := am (HXb.out.set3 name); clear hN1 hk1)
      | (go_at_call 35; (with_reducible refine (HXc.out.nd.kind 1).mono ?_); rw [hs2, hp2]; rintro e w2 ⟨rfl, hN2, hk2⟩; have HXd := am (HXc.out.move hk2 hN2); clear hN2 hk2)
      | (go_at_call 35; (with_reducible refine (HXd.out.nd.kind 6).mono ?_); rw [hs3, hp3]; rintro e w7 ⟨rfl, hN7, hk7⟩; have HXe := am (HXd.out.move hk7 hN7); have hzb := HXe.out.nd.at4.2; have hfb := HXe.out.nd.frozenG 3; have HXf := am HXe.out.bad; have hz1 := HXf.out.cells.2.1; have hf1 := HXf.out.frozen 1; have HX := am (HXf.out.set1 (rKind toks (rSign toks p ⟨#[58]⟩).2 6).1); obtain ⟨hy0, hy1, hy2, hy3, hy4⟩ := HX.out.cells; clear hN7 hk7)
      | (go_at_call 50; refine (HX.out.putc HO.out r h).mono ?_; rintro e w8 ⟨rfl, v8, hN8, hF8⟩; have HN8 := am hN8; have HF8 := am hF8; clear hN8 hF8))
     go_ret; exact ⟨rfl, _, HN8.out, HF8.out⟩
  ·rw [if_neg c1] at h; have hs1 := sgF c1; have hp1 := sgP c1; clear c1; go_enter Try.func71, Try.ntmps71; go_upto_region 2 with fail; have hX := Cx.new_ HN.out name; generalize w.heap.size = gx at hX ⊢; generalize w.alloc (.cells #[.int .i64 3, .string name, .slice none 0 0, .string ⟨#[]⟩, .slice none 0 0] 98) = wb at hX ⊢; have HXa := am hX; clear hX
   go_wp2_with (first
    | (go_at_call 36; (with_reducible refine (HXa.out.nd.sign ⟨#[58]⟩).mono ?_); rw [hs1, hp1]; rintro e w1 ⟨rfl, hN1, hk1⟩; have HX := am (HXa.out.move hk1 hN1); obtain ⟨hy0, hy1, hy2, hy3, hy4⟩ := HX.out.cells; clear hN1 hk1)
    | (go_at_call 50; refine (HX.out.putc HO.out r h).mono ?_; rintro e w8 ⟨rfl, v8, hN8, hF8⟩; have HN8 := am hN8; have HF8 := am hF8; clear hN8 hF8))
   go_ret; exact ⟨rfl, _, HN8.out, HF8.out⟩
def rSfx2 (toks : List S84) (p : Ps) (out : List S98) (a : Int) : Option (Int × Ps × List S98) := if rIs toks p ⟨#[63]⟩ = true then rPutN (rSign toks p ⟨#[63]⟩).2 out ⟨9, ⟨#[]⟩, [], ⟨#[]⟩, [a]⟩ else some (a, p, out)
def rSfx1 (toks : List S84) (p : Ps) (out : List S98) (a : Int) : Option (Int × Ps × List S98) := if rIs toks p ⟨#[43]⟩ = true then rPutN (rSign toks p ⟨#[43]⟩).2 out ⟨8, ⟨#[]⟩, [], ⟨#[]⟩, [a]⟩ else rSfx2 toks p out a
def rSfx0 (toks : List S84) (p : Ps) (out : List S98) (a : Int) : Option (Int × Ps × List S98) := if rIs toks p ⟨#[42]⟩ = true then rPutN (rSign toks p ⟨#[42]⟩).2 out ⟨7, ⟨#[]⟩, [], ⟨#[]⟩, [a]⟩ else rSfx1 toks p out a
def rBrace (k : Nat) (toks : List S84) (p : Ps) (out : List S98) : Option (Int × Ps × List S98) :=
 (rWhole k toks p).bind fun e => rPutN (rWant toks e.2 ⟨#[125]⟩) out ⟨4, ⟨#[]⟩, [⟨e.1⟩], ⟨#[]⟩, []⟩
def okT (r : Option (Int × Ps × List S98)) : Option (Int × Bool × Ps × List S98) := r.bind fun r => some (r.1, true, r.2.1, r.2.2)
mutual
def rThing : Nat → List S84 → Ps → List S98 → Option (Int × Bool × Ps × List S98)
 | 0, _, _, _ => none
 | k + 1, toks, p, out =>
  if (rKind toks p 3).2.1 = true then okT (rPutN (rKind toks p 3).2.2 out ⟨1, (rKind toks p 3).1, [], ⟨#[]⟩, []⟩)
  else if (rKind toks p 4).2.1 = true then okT (rPutN (rKind toks p 4).2.2 out ⟨2, (rKind toks p 4).1, [], ⟨#[]⟩, []⟩)
  else if (rKind toks p 1).2.1 = true then okT (rCall k toks (rKind toks p 1).2.2 out (rKind toks p 1).1 false)
  else if (rKind toks p 6).2.1 = true then okT (rCall k toks (rKind toks p 6).2.2 out (rKind toks p 6).1 true)
  else if rIs toks p ⟨#[123]⟩ = true then okT (rBrace k toks (rSign toks p ⟨#[123]⟩).2 out)
  else if rIs toks p ⟨#[40]⟩ = true then okT ((rAlts k toks (rSign toks p ⟨#[40]⟩).2 out).bind fun r => rSfx0 toks (rWant toks r.2.1 ⟨#[41]⟩) r.2.2 r.1)
  else some (0, false, p, out)
def rRow : Nat → List S84 → Ps → List S98 → Option (Int × Ps × List S98)
 | 0, _, _, _ => none
 | k + 1, toks, p, out => rRowL k toks p out []
def rRowL : Nat → List S84 → Ps → List S98 → List Int → Option (Int × Ps × List S98)
 | 0, _, _, _, _ => none
 | k + 1, toks, p, out, kids => if p.bad = true then rPutN p out ⟨5, ⟨#[]⟩, [], ⟨#[]⟩, kids⟩
  else (rThing k toks p out).bind fun t => if t.2.1 = true then (if kids.length < 17000000000000 then rRowL k toks t.2.2.1 t.2.2.2 (kids ++ [t.1]) else none) else rPutN t.2.2.1 t.2.2.2 ⟨5, ⟨#[]⟩, [], ⟨#[]⟩, kids⟩
def rAlts : Nat → List S84 → Ps → List S98 → Option (Int × Ps × List S98)
 | 0, _, _, _ => none
 | k + 1, toks, p, out => (rRow k toks (rDown p) out).bind fun r => rAltsL k toks r.2.1 r.2.2 [r.1]
def rAltsL : Nat → List S84 → Ps → List S98 → List Int → Option (Int × Ps × List S98)
 | 0, _, _, _, _ => none
 | k + 1, toks, p, out, kids => if rIs toks p ⟨#[124]⟩ = true then ((rRow k toks (rSign toks p ⟨#[124]⟩).2 out).bind fun r => (if kids.length < 17000000000000 then rAltsL k toks r.2.1 r.2.2 (kids ++ [r.1]) else none))
  else rPutN (rUp p) out ⟨6, ⟨#[]⟩, [], ⟨#[]⟩, kids⟩
end
def ConN (n : Nat) (F : List S84 → Ps → List S98 → Option (Int × Ps × List S98)) : Prop :=
 ∀ (w0 w : World) (g : Nat) (toks : List S84) (p : Ps) (v : Value) (out : List S98) (ok : Nat → Prop) (hok : ∀ q, w.heap.size ≤ q → ok q) (hN : Nd w0 w g toks p v out ok) (r : Int × Ps × List S98), F toks p out = some r →
  Calls Try.prog n #[.pointer (some ⟨g, 0, none⟩)] w fun e w' => e = .returned (.int .i64 r.1) ∧ ∃ v', Nd w0 w' g toks r.2.1 v' r.2.2 ok ∧ Fr w w' g g v v'
def ConT (F : List S84 → Ps → List S98 → Option (Int × Bool × Ps × List S98)) : Prop :=
 ∀ (w0 w : World) (g : Nat) (toks : List S84) (p : Ps) (v : Value) (out : List S98) (ok : Nat → Prop) (hok : ∀ q, w.heap.size ≤ q → ok q) (hN : Nd w0 w g toks p v out ok) (r : Int × Bool × Ps × List S98), F toks p out = some r →
  Calls Try.prog 60 #[.pointer (some ⟨g, 0, none⟩)] w fun e w' => e = .returned (.tuple #[.int .i64 r.1, .bool r.2.1]) ∧ ∃ v', Nd w0 w' g toks r.2.2.1 v' r.2.2.2 ok ∧ Fr w w' g g v v'
theorem lit1E {w : World} {base : Nat} {ok : Nat → Prop} {ve : Value} {xs : List S92} (hb : base ≤ w.heap.size) (hok : ok w.heap.size) (h : Kd.R k92 92 w base ok ve xs) : Kd.R k69 69 (w.alloc (.cells #[ve] 69)) base ok (.slice (some ⟨w.heap.size, 0, none⟩) 1 1) [(⟨xs⟩ : S69)] := by
 refine ⟨fun k hk => ?_, [ve], ?_, ⟨rfl, fun j p hj => ?_⟩⟩
 ·have h2 : w.heap.size = k := by simpa [Value.ownBlock] using hk
  subst h2; exact hok
 ·have h2 := World.ownsRow_lit (base := base) (e := 69) (size := k69.sz) w #[ve] 1 hb (by decide) (by rfl); simpa using h2
 ·match j, hj with
  | 0, hj =>
   have := Option.some.inj hj; subst this; refine k69_mkM _ _ _ _ (Kd.R_mono (Kd.R_bound (Kd.R_alloc (Kd.R_mono (Kd.R_bound h) (fun k hk => (⟨hk.1, hk.2.2.1⟩ : ok k ∧ k < w.heap.size))) (.cells #[ve] 69))) (fun k hk => ⟨hk.1.1, fun e => ?_⟩)); have h2 : k = w.heap.size := by simpa [Value.ownBlock] using e
   have := hk.1.2; omega
theorem okT_some {x : Option (Int × Ps × List S98)} {r : Int × Bool × Ps × List S98} (h : okT x = some r) : ∃ y, x = some y ∧ r = (y.1, true, y.2.1, y.2.2) := by
 unfold okT at h; obtain ⟨y, hy, h⟩ := Option.bind_eq_some_iff.mp h; exact ⟨y, hy, (Option.some.inj h).symm⟩
theorem Nd.fr {w0 w w' : World} {g : Nat} {v : Value} (h : KeepBut w w' g none) : Fr w w' g g v v := Fr.of_keep h g v
set_option maxHeartbeats 16000000 in
theorem thing_con (k : Nat) (iha : ConN 38 (rAlts k)) : ConT (rThing (k + 1)) := by
 intro w0 w g toks p v out ok hok hN r h; simp only [rThing] at h; have HN0 := am hN; have HO := am hok; have IHA := am iha; have HF0 := am (Fr.refl w g g v); clear hN hok iha; by_cases c3 : (rKind toks p 3).2.1 = true
 ·rw [if_pos c3] at h; obtain ⟨y, hy, rfl⟩ := okT_some h; have HY := am hy; clear h hy; go_enter Try.func60, Try.ntmps60
  go_wp2_with (first
   | (go_at_call 35; (with_reducible refine (HN0.out.kind 3).mono ?_); rw [c3]; rintro e w1 ⟨rfl, hN, hk⟩; have HN1 := am hN; have HF1 := am (HF0.out.trans (Nd.fr (v := v) (w0 := w0) hk)); clear hN hk)
   | (go_at_call 50; refine (put_calls w0 _ g toks _ _ _ ok (okUp HO.out HF1.out) HN1.out 1 _ ⟨#[]⟩ (.slice none 0 0) (.slice none 0 0) [] [] (fun _ => False) (Kd.R_nil _ _ _ _ _) (Kd.R_nil _ _ _ _ _) (fun _ hq => hq.elim) y HY.out).mono ?_; rintro e w9 ⟨rfl, v9, hN, hF⟩; have HN9 := am hN; have HF9 := am (HF1.out.trans hF); clear hN hF))
  go_ret2
  exact ⟨rfl, _, HN9.out, HF9.out⟩
 rw [if_neg c3] at h; have hs3 : (rKind toks p 3).2.1 = false := by simpa using c3
 have hp3 := kdP c3; clear c3; by_cases c4 : (rKind toks p 4).2.1 = true
 ·rw [if_pos c4] at h; obtain ⟨y, hy, rfl⟩ := okT_some h; have HY := am hy; clear h hy; go_enter Try.func60, Try.ntmps60
  go_wp2_with (first
   | (go_at_call 35; (with_reducible refine (HN0.out.kind 3).mono ?_); rw [hs3, hp3]; rintro e w1 ⟨rfl, hN, hk⟩; have HN1 := am hN; have HF1 := am (HF0.out.trans (Nd.fr (v := v) (w0 := w0) hk)); clear hN hk)
   | (go_at_call 35; (with_reducible refine (HN1.out.kind 4).mono ?_); rw [c4]; rintro e w2 ⟨rfl, hN, hk⟩; have HN2 := am hN; have HF2 := am (HF1.out.trans (Nd.fr (v := v) (w0 := w0) hk)); clear hN hk)
   | (go_at_call 50; refine (put_calls w0 _ g toks _ _ _ ok (okUp HO.out HF2.out) HN2.out 2 _ ⟨#[]⟩ (.slice none 0 0) (.slice none 0 0) [] [] (fun _ => False) (Kd.R_nil _ _ _ _ _) (Kd.R_nil _ _ _ _ _) (fun _ hq => hq.elim) y HY.out).mono ?_; rintro e w9 ⟨rfl, v9, hN, hF⟩; have HN9 := am hN; have HF9 := am (HF2.out.trans hF); clear hN hF))
  go_ret2
  exact ⟨rfl, _, HN9.out, HF9.out⟩
 rw [if_neg c4] at h; have hs4 : (rKind toks p 4).2.1 = false := by simpa using c4
 have hp4 := kdP c4; clear c4; by_cases c1 : (rKind toks p 1).2.1 = true
 ·rw [if_pos c1] at h; obtain ⟨y, hy, rfl⟩ := okT_some h; have HY := am hy; clear h hy; go_enter Try.func60, Try.ntmps60
  go_wp2_with (first
   | (go_at_call 35; (with_reducible refine (HN0.out.kind 3).mono ?_); rw [hs3, hp3]; rintro e w1 ⟨rfl, hN, hk⟩; have HN1 := am hN; have HF1 := am (HF0.out.trans (Nd.fr (v := v) (w0 := w0) hk)); clear hN hk)
   | (go_at_call 35; (with_reducible refine (HN1.out.kind 4).mono ?_); rw [hs4, hp4]; rintro e w2 ⟨rfl, hN, hk⟩; have HN2 := am hN; have HF2 := am (HF1.out.trans (Nd.fr (v := v) (w0 := w0) hk)); clear hN hk)
   | (go_at_call 35; (with_reducible refine (HN2.out.kind 1).mono ?_); rw [c1]; rintro e w3 ⟨rfl, hN, hk⟩; have HN3 := am hN; have HF3 := am (HF2.out.trans (Nd.fr (v := v) (w0 := w0) hk)); clear hN hk)
   | (go_at_call 71; refine (call_calls k w0 _ g toks _ v out ok (okUp HO.out HF3.out) HN3.out _ false y HY.out).mono ?_; rintro e w9 ⟨rfl, v9, hN, hF⟩; have HN9 := am hN; have HF9 := am (HF3.out.trans hF); clear hN hF))
  go_ret2
  exact ⟨rfl, _, HN9.out, HF9.out⟩
 rw [if_neg c1] at h; have hs1 : (rKind toks p 1).2.1 = false := by simpa using c1
 have hp1 := kdP c1; clear c1; by_cases c6 : (rKind toks p 6).2.1 = true
 ·rw [if_pos c6] at h; obtain ⟨y, hy, rfl⟩ := okT_some h; have HY := am hy; clear h hy; go_enter Try.func60, Try.ntmps60
  go_wp2_with (first
   | (go_at_call 35; (with_reducible refine (HN0.out.kind 3).mono ?_); rw [hs3, hp3]; rintro e w1 ⟨rfl, hN, hk⟩; have HN1 := am hN; have HF1 := am (HF0.out.trans (Nd.fr (v := v) (w0 := w0) hk)); clear hN hk)
   | (go_at_call 35; (with_reducible refine (HN1.out.kind 4).mono ?_); rw [hs4, hp4]; rintro e w2 ⟨rfl, hN, hk⟩; have HN2 := am hN; have HF2 := am (HF1.out.trans (Nd.fr (v := v) (w0 := w0) hk)); clear hN hk)
   | (go_at_call 35; (with_reducible refine (HN2.out.kind 1).mono ?_); rw [hs1, hp1]; rintro e w3 ⟨rfl, hN, hk⟩; have HN3 := am hN; have HF3 := am (HF2.out.trans (Nd.fr (v := v) (w0 := w0) hk)); clear hN hk)
   | (go_at_call 35; (with_reducible refine (HN3.out.kind 6).mono ?_); rw [c6]; rintro e w4 ⟨rfl, hN, hk⟩; have HN4 := am hN; have HF4 := am (HF3.out.trans (Nd.fr (v := v) (w0 := w0) hk)); clear hN hk)
   | (go_at_call 71; refine (call_calls k w0 _ g toks _ v out ok (okUp HO.out HF4.out) HN4.out _ true y HY.out).mono ?_; rintro e w9 ⟨rfl, v9, hN, hF⟩; have HN9 := am hN; have HF9 := am (HF4.out.trans hF); clear hN hF))
  go_ret2
  exact ⟨rfl, _, HN9.out, HF9.out⟩
 rw [if_neg c6] at h; have hs6 : (rKind toks p 6).2.1 = false := by simpa using c6
 have hp6 := kdP c6; clear c6; by_cases cb : rIs toks p ⟨#[123]⟩ = true
 ·rw [if_pos cb] at h; have hsb := sgT cb; clear cb; obtain ⟨y, hy, rfl⟩ := okT_some h; unfold rBrace at hy; obtain ⟨e1, h1, hy⟩ := Option.bind_eq_some_iff.mp hy; have HY := am hy; have H1 := am h1; clear h hy h1; go_enter Try.func60, Try.ntmps60
  go_upto_region 15 with (first
   | (go_at_call 35; (with_reducible refine (HN0.out.kind 3).mono ?_); rw [hs3, hp3]; rintro e w1 ⟨rfl, hN, hk⟩; have HN1 := am hN; have HF1 := am (HF0.out.trans (Nd.fr (v := v) (w0 := w0) hk)); clear hN hk)
   | (go_at_call 35; (with_reducible refine (HN1.out.kind 4).mono ?_); rw [hs4, hp4]; rintro e w2 ⟨rfl, hN, hk⟩; have HN2 := am hN; have HF2 := am (HF1.out.trans (Nd.fr (v := v) (w0 := w0) hk)); clear hN hk)
   | (go_at_call 35; (with_reducible refine (HN2.out.kind 1).mono ?_); rw [hs1, hp1]; rintro e w3 ⟨rfl, hN, hk⟩; have HN3 := am hN; have HF3 := am (HF2.out.trans (Nd.fr (v := v) (w0 := w0) hk)); clear hN hk)
   | (go_at_call 35; (with_reducible refine (HN3.out.kind 6).mono ?_); rw [hs6, hp6]; rintro e w4 ⟨rfl, hN, hk⟩; have HN4 := am hN; have HF4 := am (HF3.out.trans (Nd.fr (v := v) (w0 := w0) hk)); clear hN hk)
   | (go_at_call 36; (with_reducible refine (HN4.out.sign ⟨#[123]⟩).mono ?_); rw [hsb]; rintro e w5 ⟨rfl, hN, hk⟩; have HN5 := am hN; have HF5 := am (HF4.out.trans (Nd.fr (v := v) (w0 := w0) hk)); clear hN hk)
   | (go_at_call 72; refine (whole_calls k w0 _ g toks _ v out ok HN5.out e1 H1.out).mono ?_; rintro e w6 ⟨ve, rfl, hN, hV, hk⟩; obtain ⟨Ae, ce, ee⟩ := Kd.R_slice hV; subst ee; have HN6 := am hN; have HV6 := am hV; have HK6 := am hk; have HF6 := am (HF5.out.trans (Nd.fr (v := v) (w0 := w0) hk)); clear hN hV hk))
  have hX7 : (w6.alloc (.cells #[Value.slice Ae e1.1.length ce] 69)).heap[w6.heap.size]? = some (.cells #[Value.slice Ae e1.1.length ce] 69 (0, 0)) := by simpa using heap_alloc_new w6 (.cells #[Value.slice Ae e1.1.length ce] 69)
  have HN7 := am (HN6.out.alloc (.cells #[Value.slice Ae e1.1.length ce] 69)); have HF7 := am (HF6.out.trans (Fr.below (g := g) (go := g) (v := v) (below_alloc (Below.refl _ _) (.cells #[Value.slice Ae e1.1.length ce] 69)))); have HV7 := am (Kd.R_alloc HV6.out (.cells #[Value.slice Ae e1.1.length ce] 69)); have HL7 := am (show w5.heap.size ≤ w6.heap.size from HK6.out.1); have hg7 : g ≠ w6.heap.size := by have := HN6.out.inn.lt; omega
  generalize w6.heap.size = gb at *; generalize w6.alloc (.cells #[Value.slice Ae e1.1.length ce] 69) = w7 at *; have HX7 := am hX7; have HG7 := am hg7; clear hX7 HN6 HF6 HV6 HK6 hg7; go_upto_region 16 with (go_at_call 37; refine (HN7.out.want ⟨#[125]⟩).mono ?_; rintro e w8 ⟨rfl, hN, hk⟩; have hX8 := (hk.2 gb (blk_lt HX7.out) (Ne.symm HG7.out) (by simp)).trans HX7.out; have HN8 := am hN; have HK8 := am hk; have HF8 := am (HF7.out.trans (Nd.fr (v := v) (w0 := w0) hk)); clear hN hk); have hxx : w8.cell? ⟨gb, 0, none⟩ = some (Value.slice Ae e1.1.length ce) := (blk_cell hX8 0).trans rfl; have hv8 := Kd.R_keep (Kd.R_bound (HN7.out.inn.apart HV7.out (by decide))) HK8.out (fun q hq => hq.1.2); have hA9 := lit1E (ok := fun q => w5.heap.size ≤ q) HN8.out.bel.size (by have := HK8.out.1; have := blk_lt HX7.out; have := HL7.out; show w5.heap.size ≤ w8.heap.size; omega) (Kd.R_mono hv8 (fun q hq => hq.1.1)); have HA9 := am hA9; have HH8 := am (HN8.out.alloc (.cells #[.slice Ae e1.1.length ce] 69)); have HG8 := am (HF8.out.trans (Fr.below (g := g) (go := g) (v := v) (below_alloc (Below.refl _ _) (.cells #[.slice Ae e1.1.length ce] 69)))); have HO5 := am (show ∀ q, w5.heap.size ≤ q → q < (w8.alloc (.cells #[.slice Ae e1.1.length ce] 69)).heap.size → ok q ∧ some q ≠ v.ownBlock from fun q hq _ => ⟨okUp HO.out HF5.out q hq, fun e => by have := (HN5.out.own.2 q e.symm).2.2; omega⟩); clear hX8 hv8 hA9 HX7 HV7; go_wp2_with (go_at_call 50; refine (put_calls w0 _ g toks _ _ _ ok (okUp HO.out HG8.out) HH8.out 4 ⟨#[]⟩ ⟨#[]⟩ _ (.slice none 0 0) [⟨e1.1⟩] [] (fun q => w5.heap.size ≤ q) HA9.out (Kd.R_nil _ _ _ _ _) HO5.out y HY.out).mono ?_; rintro e w9 ⟨rfl, v9, hN, hF⟩; have HN9 := am hN; have HF9 := am (HG8.out.trans hF); clear hN hF); go_ret2
  exact ⟨rfl, _, HN9.out, HF9.out⟩
 rw [if_neg cb] at h; have hsb := sgF cb; have hpb := sgP cb; clear cb; by_cases co : rIs toks p ⟨#[40]⟩ = true
 ·rw [if_pos co] at h; have hso := sgT co; clear co; obtain ⟨y, hy, rfl⟩ := okT_some h; obtain ⟨r1, h1, hy⟩ := Option.bind_eq_some_iff.mp hy; have HY := am hy; have H1 := am h1; clear h hy h1; go_enter Try.func60, Try.ntmps60
  go_upto_region 21 with (first
   | (go_at_call 35; (with_reducible refine (HN0.out.kind 3).mono ?_); rw [hs3, hp3]; rintro e w1 ⟨rfl, hN, hk⟩; have HN1 := am hN; have HF1 := am (HF0.out.trans (Nd.fr (v := v) (w0 := w0) hk)); clear hN hk)
   | (go_at_call 35; (with_reducible refine (HN1.out.kind 4).mono ?_); rw [hs4, hp4]; rintro e w2 ⟨rfl, hN, hk⟩; have HN2 := am hN; have HF2 := am (HF1.out.trans (Nd.fr (v := v) (w0 := w0) hk)); clear hN hk)
   | (go_at_call 35; (with_reducible refine (HN2.out.kind 1).mono ?_); rw [hs1, hp1]; rintro e w3 ⟨rfl, hN, hk⟩; have HN3 := am hN; have HF3 := am (HF2.out.trans (Nd.fr (v := v) (w0 := w0) hk)); clear hN hk)
   | (go_at_call 35; (with_reducible refine (HN3.out.kind 6).mono ?_); rw [hs6, hp6]; rintro e w4 ⟨rfl, hN, hk⟩; have HN4 := am hN; have HF4 := am (HF3.out.trans (Nd.fr (v := v) (w0 := w0) hk)); clear hN hk)
   | (go_at_call 36; (with_reducible refine (HN4.out.sign ⟨#[123]⟩).mono ?_); rw [hsb, hpb]; rintro e w5 ⟨rfl, hN, hk⟩; have HN5 := am hN; have HF5 := am (HF4.out.trans (Nd.fr (v := v) (w0 := w0) hk)); clear hN hk)
   | (go_at_call 36; (with_reducible refine (HN5.out.sign ⟨#[40]⟩).mono ?_); rw [hso]; rintro e w6 ⟨rfl, hN, hk⟩; have HN6 := am hN; have HF6 := am (HF5.out.trans (Nd.fr (v := v) (w0 := w0) hk)); clear hN hk)
   | (go_at_call 38; refine (IHA.out w0 _ g toks _ v out ok (okUp HO.out HF6.out) HN6.out r1 H1.out).mono ?_; rintro e w7 ⟨rfl, v7, hN, hF⟩; have HN7 := am hN; have HF7 := am (HF6.out.trans hF); clear hN hF)
   | (go_at_call 37; refine (HN7.out.want ⟨#[41]⟩).mono ?_; rintro e w8 ⟨rfl, hN, hk⟩; have HN8 := am hN; have HF8 := am (HF7.out.trans (Nd.fr (v := v7) (w0 := w0) hk)); clear hN hk))
  have hX := heap_alloc_new w8 (.cells #[.string ⟨#[42]⟩, .string ⟨#[43]⟩, .string ⟨#[63]⟩] 9); have HNA := am (HN8.out.alloc (.cells #[.string ⟨#[42]⟩, .string ⟨#[43]⟩, .string ⟨#[63]⟩] 9)); have HFA := am (HF8.out.trans (Fr.below (g := g) (go := g) (v := v7) (below_alloc (Below.refl _ _) (.cells #[.string ⟨#[42]⟩, .string ⟨#[43]⟩, .string ⟨#[63]⟩] 9)))); have HXA := am hX; have HGA := am (show g ≠ w8.heap.size by have := HN8.out.inn.lt; omega); clear hX HN0 HN1 HN2 HN3 HN4 HN5 HN6 HN7 HN8 HF1 HF2 HF3 HF4 HF5 HF6 HF7 HF8 H1; go_wp2; go_loopg [9] 3 (fun kq v9 w' => ∃ i : Int, v9 = .int .i64 i ∧ Aside0 ((i = 0 ∧ kq = 3 ∧ rSfx0 toks (rWant toks r1.2.1 ⟨#[41]⟩) r1.2.2 r1.1 = some y) ∨ (i = 1 ∧ kq = 2 ∧ rSfx1 toks (rWant toks r1.2.1 ⟨#[41]⟩) r1.2.2 r1.1 = some y) ∨ (i = 2 ∧ kq = 1 ∧ rSfx2 toks (rWant toks r1.2.1 ⟨#[41]⟩) r1.2.2 r1.1 = some y) ∨ (i = 3 ∧ kq = 0 ∧ some (r1.1, rWant toks r1.2.1 ⟨#[41]⟩, r1.2.2) = some y)) ∧ Aside0 (Nd w0 w' g toks (rWant toks r1.2.1 ⟨#[41]⟩) v7 r1.2.2 ok) ∧ Aside0 (Fr w w' g g v v7) ∧ Aside0 (w'.heap[w8.heap.size]? = some (.cells #[.string ⟨#[42]⟩, .string ⟨#[43]⟩, .string ⟨#[63]⟩] 9 (0, 0))))
  case atStart => exact ⟨0, rfl, ⟨.inl ⟨rfl, rfl, HY.out⟩⟩, HNA, HFA, HXA⟩
  case round =>
   clear HNA HFA HXA HY; obtain ⟨i, rfl, HA, HNA, HFA, HXA⟩ := hrel; have H := HA.out; clear HA; have hx0 : wr.cell? ⟨w8.heap.size, 0, none⟩ = some (.string ⟨#[42]⟩) := (blk_cell HXA.out 0).trans rfl; have hx1 : wr.cell? ⟨w8.heap.size, 1, none⟩ = some (.string ⟨#[43]⟩) := (blk_cell HXA.out 1).trans rfl; have hx2 : wr.cell? ⟨w8.heap.size, 2, none⟩ = some (.string ⟨#[63]⟩) := (blk_cell HXA.out 2).trans rfl; rcases H with ⟨rfl, rfl, H⟩ | ⟨rfl, rfl, H⟩ | ⟨rfl, rfl, H⟩ | ⟨rfl, rfl, H⟩
   ·unfold rSfx0 at H; by_cases d : rIs toks (rWant toks r1.2.1 ⟨#[41]⟩) ⟨#[42]⟩ = true
    ·rw [if_pos d] at H; have HY := am H; have hs := sgT d; clear H d
     go_wp2_with (first
      | (go_at_call 36; (with_reducible refine (HNA.out.sign ⟨#[42]⟩).mono ?_); rw [hs]; rintro e wb ⟨rfl, hN, hk⟩; have HNB := am hN; have HFB := am (HFA.out.trans (Nd.fr (v := v7) (w0 := w0) hk)); clear hN hk)
      | (go_at_call 50; refine (put_calls w0 (wb.alloc (.cells #[.int .i64 r1.1] 3)) g toks _ _ _ ok (okUp HO.out (HFB.out.trans (Fr.below (g := g) (go := g) (v := v7) (below_alloc (Below.refl _ _) _)))) (HNB.out.alloc _) 7 ⟨#[]⟩ ⟨#[]⟩ (.slice none 0 0) _ [] [r1.1] (fun q => q = wb.heap.size) (Kd.R_nil _ _ _ _ _) (litR [r1.1] HNB.out.bel.size rfl (by simp)) (fun q hq _ => ⟨okUp HO.out HFB.out q (by omega), fun e => by have := (HNB.out.own.2 q e.symm).2.2; omega⟩) y HY.out).mono ?_; rintro e w9 ⟨rfl, v9, hN, hF⟩; have HN9 := am hN; have HF9 := am ((HFB.out.trans (Fr.below (g := g) (go := g) (v := v7) (below_alloc (Below.refl _ _) _))).trans hF); clear hN hF))
     go_ret2
     exact ⟨rfl, _, HN9.out, HF9.out⟩
    ·rw [if_neg d] at H; have hs := sgF d; have hp := sgP d; clear d; go_wp2_with (go_at_call 36; (with_reducible refine (HNA.out.sign ⟨#[42]⟩).mono ?_); rw [hs, hp]; rintro e wb ⟨rfl, hN, hk⟩; have HXB := am ((hk.2 w8.heap.size (blk_lt HXA.out) (Ne.symm HGA.out) (by simp)).trans HXA.out); have HNB := am hN; have HFB := am (HFA.out.trans (Nd.fr (v := v7) (w0 := w0) hk)); clear hN hk); go_roundg 2
     case measure => exact Nat.lt_succ_self _
     case rel => exact ⟨1, rfl, ⟨.inr (.inl ⟨rfl, rfl, H⟩)⟩, HNB, HFB, HXB⟩
   ·unfold rSfx1 at H; by_cases d : rIs toks (rWant toks r1.2.1 ⟨#[41]⟩) ⟨#[43]⟩ = true
    ·rw [if_pos d] at H; have HY := am H; have hs := sgT d; clear H d
     go_wp2_with (first
      | (go_at_call 36; (with_reducible refine (HNA.out.sign ⟨#[43]⟩).mono ?_); rw [hs]; rintro e wb ⟨rfl, hN, hk⟩; have HNB := am hN; have HFB := am (HFA.out.trans (Nd.fr (v := v7) (w0 := w0) hk)); clear hN hk)
      | (go_at_call 50; refine (put_calls w0 (wb.alloc (.cells #[.int .i64 r1.1] 3)) g toks _ _ _ ok (okUp HO.out (HFB.out.trans (Fr.below (g := g) (go := g) (v := v7) (below_alloc (Below.refl _ _) _)))) (HNB.out.alloc _) 8 ⟨#[]⟩ ⟨#[]⟩ (.slice none 0 0) _ [] [r1.1] (fun q => q = wb.heap.size) (Kd.R_nil _ _ _ _ _) (litR [r1.1] HNB.out.bel.size rfl (by simp)) (fun q hq _ => ⟨okUp HO.out HFB.out q (by omega), fun e => by have := (HNB.out.own.2 q e.symm).2.2; omega⟩) y HY.out).mono ?_; rintro e w9 ⟨rfl, v9, hN, hF⟩; have HN9 := am hN; have HF9 := am ((HFB.out.trans (Fr.below (g := g) (go := g) (v := v7) (below_alloc (Below.refl _ _) _))).trans hF); clear hN hF))
     go_ret2
     exact ⟨rfl, _, HN9.out, HF9.out⟩
    ·rw [if_neg d] at H; have hs := sgF d; have hp := sgP d; clear d; go_wp2_with (go_at_call 36; (with_reducible refine (HNA.out.sign ⟨#[43]⟩).mono ?_); rw [hs, hp]; rintro e wb ⟨rfl, hN, hk⟩; have HXB := am ((hk.2 w8.heap.size (blk_lt HXA.out) (Ne.symm HGA.out) (by simp)).trans HXA.out); have HNB := am hN; have HFB := am (HFA.out.trans (Nd.fr (v := v7) (w0 := w0) hk)); clear hN hk); go_roundg 1
     case measure => exact Nat.lt_succ_self _
     case rel => exact ⟨2, rfl, ⟨.inr (.inr (.inl ⟨rfl, rfl, H⟩))⟩, HNB, HFB, HXB⟩
   ·unfold rSfx2 at H; by_cases d : rIs toks (rWant toks r1.2.1 ⟨#[41]⟩) ⟨#[63]⟩ = true
    ·rw [if_pos d] at H; have HY := am H; have hs := sgT d; clear H d
     go_wp2_with (first
      | (go_at_call 36; (with_reducible refine (HNA.out.sign ⟨#[63]⟩).mono ?_); rw [hs]; rintro e wb ⟨rfl, hN, hk⟩; have HNB := am hN; have HFB := am (HFA.out.trans (Nd.fr (v := v7) (w0 := w0) hk)); clear hN hk)
      | (go_at_call 50; refine (put_calls w0 (wb.alloc (.cells #[.int .i64 r1.1] 3)) g toks _ _ _ ok (okUp HO.out (HFB.out.trans (Fr.below (g := g) (go := g) (v := v7) (below_alloc (Below.refl _ _) _)))) (HNB.out.alloc _) 9 ⟨#[]⟩ ⟨#[]⟩ (.slice none 0 0) _ [] [r1.1] (fun q => q = wb.heap.size) (Kd.R_nil _ _ _ _ _) (litR [r1.1] HNB.out.bel.size rfl (by simp)) (fun q hq _ => ⟨okUp HO.out HFB.out q (by omega), fun e => by have := (HNB.out.own.2 q e.symm).2.2; omega⟩) y HY.out).mono ?_; rintro e w9 ⟨rfl, v9, hN, hF⟩; have HN9 := am hN; have HF9 := am ((HFB.out.trans (Fr.below (g := g) (go := g) (v := v7) (below_alloc (Below.refl _ _) _))).trans hF); clear hN hF))
     go_ret2
     exact ⟨rfl, _, HN9.out, HF9.out⟩
    ·rw [if_neg d] at H; have hs := sgF d; have hp := sgP d; clear d; go_wp2_with (go_at_call 36; (with_reducible refine (HNA.out.sign ⟨#[63]⟩).mono ?_); rw [hs, hp]; rintro e wb ⟨rfl, hN, hk⟩; have HXB := am ((hk.2 w8.heap.size (blk_lt HXA.out) (Ne.symm HGA.out) (by simp)).trans HXA.out); have HNB := am hN; have HFB := am (HFA.out.trans (Nd.fr (v := v7) (w0 := w0) hk)); clear hN hk); go_roundg 0
     case measure => exact Nat.lt_succ_self _
     case rel => exact ⟨3, rfl, ⟨.inr (.inr (.inr ⟨rfl, rfl, H⟩))⟩, HNB, HFB, HXB⟩
   ·obtain rfl := si H; go_wp2; go_ret2
    exact ⟨rfl, _, HNA.out, HFA.out⟩
 rw [if_neg co] at h; have hso := sgF co; have hpo := sgP co; clear co; obtain rfl := si h; go_enter Try.func60, Try.ntmps60
 go_wp2_with (first
  | (go_at_call 35; (with_reducible refine (HN0.out.kind 3).mono ?_); rw [hs3, hp3]; rintro e w1 ⟨rfl, hN, hk⟩; have HN1 := am hN; have HF1 := am (HF0.out.trans (Nd.fr (v := v) (w0 := w0) hk)); clear hN hk)
  | (go_at_call 35; (with_reducible refine (HN1.out.kind 4).mono ?_); rw [hs4, hp4]; rintro e w2 ⟨rfl, hN, hk⟩; have HN2 := am hN; have HF2 := am (HF1.out.trans (Nd.fr (v := v) (w0 := w0) hk)); clear hN hk)
  | (go_at_call 35; (with_reducible refine (HN2.out.kind 1).mono ?_); rw [hs1, hp1]; rintro e w3 ⟨rfl, hN, hk⟩; have HN3 := am hN; have HF3 := am (HF2.out.trans (Nd.fr (v := v) (w0 := w0) hk)); clear hN hk)
  | (go_at_call 35; (with_reducible refine (HN3.out.kind 6).mono ?_); rw [hs6, hp6]; rintro e w4 ⟨rfl, hN, hk⟩; have HN4 := am hN; have HF4 := am (HF3.out.trans (Nd.fr (v := v) (w0 := w0) hk)); clear hN hk)
  | (go_at_call 36; (with_reducible refine (HN4.out.sign ⟨#[123]⟩).mono ?_); rw [hsb, hpb]; rintro e w5 ⟨rfl, hN, hk⟩; have HN5 := am hN; have HF5 := am (HF4.out.trans (Nd.fr (v := v) (w0 := w0) hk)); clear hN hk)
  | (go_at_call 36; (with_reducible refine (HN5.out.sign ⟨#[40]⟩).mono ?_); rw [hso, hpo]; rintro e w6 ⟨rfl, hN, hk⟩; have HN6 := am hN; have HF6 := am (HF5.out.trans (Nd.fr (v := v) (w0 := w0) hk)); clear hN hk))
 go_ret2
 exact ⟨rfl, _, HN6.out, HF6.out⟩
structure Rw (w0 w wl : World) (g : Nat) (toks : List S84) (p : Ps) (v v1 : Value) (out : List S98) (ok : Nat → Prop) (kv : Value) (kids : List Int) : Prop where
 nd : Nd w0 wl g toks p v1 out (fun q => ok q ∧ some q ≠ kv.ownBlock)
 fr : Fr w wl g g v v1
 row : Kd.R (Kd.int .i64) 3 wl w0.heap.size (fun q => some q = kv.ownBlock) kv kids
 new : ∀ q, kv.ownBlock = some q → w.heap.size ≤ q
section
variable {w0 w wl w2 : World} {g : Nat} {toks : List S84} {p p' : Ps} {v v1 v2 kv : Value} {out out' : List S98} {ok : Nat → Prop} {kids : List Int}
theorem Rw.new_ (hN : Nd w0 wl g toks p v1 out ok) (hF : Fr w wl g g v v1) (xs : List Int) (hl : xs.length ≤ 100) : Rw w0 w (wl.alloc (.cells (xs.map (Value.int .i64)).toArray 3)) g toks p v v1 out ok (.slice (some ⟨wl.heap.size, 0, none⟩) xs.length xs.length) xs := by
 have h1 : Nd w0 wl g toks p v1 out (fun q => ok q ∧ some q ≠ (Value.slice (some ⟨wl.heap.size, 0, none⟩) xs.length xs.length).ownBlock) := hN.mono (fun q hq hlt => ⟨hq, fun e => by
  have h2 : q = wl.heap.size := by simpa [Value.ownBlock] using e
  omega⟩)
 refine ⟨h1.alloc _, hF.trans (Fr.below (below_alloc (Below.refl _ _) _)), litR xs hN.bel.size (by simp [Value.ownBlock]) hl, fun q hq => ?_⟩; have h2 : wl.heap.size = q := by simpa [Value.ownBlock] using hq
 have := hF.size; omega
theorem Rw.hok (h : Rw w0 w wl g toks p v v1 out ok kv kids) (hok : ∀ q, w.heap.size ≤ q → ok q) : ∀ q, wl.heap.size ≤ q → ok q ∧ some q ≠ kv.ownBlock := fun q hq => ⟨okUp hok h.fr q hq, fun e => by have := ((Kd.R_bound h.row).1 q e.symm).2.2.1; omega⟩
theorem Rw.call (h : Rw w0 w wl g toks p v v1 out ok kv kids) (hN : Nd w0 w2 g toks p' v2 out' (fun q => ok q ∧ some q ≠ kv.ownBlock)) (hF : Fr wl w2 g g v1 v2) : Rw w0 w w2 g toks p' v v2 out' ok kv kids := by
 refine ⟨hN, h.fr.trans hF, ?_, h.new⟩; have hb := h.nd.inn.apart h.row (by decide); refine Kd.R_mono (Kd.R_move (Kd.R_bound hb) (fun k hk => ?_)) (fun k hk => hk.1.1); exact hF.same k hk.2.2.1 hk.1.2 hk.1.2 (fun e => (h.nd.own.2 k e).1.2 hk.1.1)
theorem Rw.keep (h : Rw w0 w wl g toks p v v1 out ok kv kids) (hN : Nd w0 w2 g toks p' v1 out (fun q => ok q ∧ some q ≠ kv.ownBlock)) (hk : KeepBut wl w2 g none) : Rw w0 w w2 g toks p' v v1 out ok kv kids := h.call hN (Fr.of_keep hk g v1)
theorem Rw.append {w3 : World} {kv2 : Value} {kids2 : List Int} (h : Rw w0 w wl g toks p v v1 out ok kv kids) (row : Kd.R (Kd.int .i64) 3 w3 w0.heap.size (fun q => some q = kv.ownBlock ∨ wl.heap.size ≤ q) kv2 kids2) (hb : Below w0.heap.size wl w3) (hg : wl.grownBy w3 kv.ownBlock) (hat : kv2.ownBlock = kv.ownBlock ∨ ∃ b, kv2.ownBlock = some b ∧ wl.heap.size ≤ b) : Rw w0 w w3 g toks p v v1 out ok kv2 kids2 := by
 have hng := h.nd.grown hg (h.nd.inn.own_ne h.row (by decide)) (fun q hq => hq.2) hb; refine ⟨⟨hng.inn, hng.pos, hng.bel, Kd.R_mono (Kd.R_move (Kd.R_bound h.nd.row) (fun k hk => hg.block k hk.2.2.1 hk.1.2)) (fun k hk => ⟨hk.1.1, ?_⟩)⟩, ⟨Nat.le_trans h.fr.size hg.size, fun i hi hgi hgo hv => ?_, h.fr.at_⟩, Kd.R_tight rfl row, ?_⟩
 ·rcases hat with e | ⟨b, e, hbz⟩
  ·rw [e]; exact hk.1.2
  ·rw [e]; intro e2; have := Option.some.inj e2; have := hk.2.2.1; omega
 ·exact (hg.block i (Nat.lt_of_lt_of_le hi h.fr.size) (fun e => by have := h.new i e.symm; omega)).trans (h.fr.same i hi hgi hgo hv)
 ·rcases hat with e | ⟨b, e, hbz⟩
  ·rw [e]; exact h.new
  ·rw [e]; intro q e2; have := Option.some.inj e2; have := h.fr.size; omega
theorem Rw.putc (h : Rw w0 w wl g toks p v v1 out ok kv kids) (hok : ∀ q, w.heap.size ≤ q → ok q) (kind : Int) (r : Int × Ps × List S98) (hr : rPutN p out ⟨kind, ⟨#[]⟩, [], ⟨#[]⟩, kids⟩ = some r) :
  Calls Try.prog 50 #[.pointer (some ⟨g, 0, none⟩), .agg #[.int .i64 kind, .string ⟨#[]⟩, .slice none 0 0, .string ⟨#[]⟩, kv]] wl fun e w' => e = .returned (.int .i64 r.1) ∧ ∃ v', Nd w0 w' g toks r.2.1 v' r.2.2 ok ∧ Fr w w' g g v v' := by
 refine (put_calls w0 wl g toks p v1 out ok (okUp hok h.fr) (h.nd.mono (fun q hq _ => hq.1)) kind ⟨#[]⟩ ⟨#[]⟩ (.slice none 0 0) kv [] kids (fun q => some q = kv.ownBlock) (Kd.R_nil _ _ _ _ _) h.row (fun q hq hl => ⟨hok q (h.new q hq.symm), fun e => (h.nd.own.2 q e.symm).1.2 hq⟩) r hr).mono ?_; rintro e w' ⟨he, v', hN, hF⟩; exact ⟨he, v', hN, h.fr.trans hF⟩
end
set_option maxHeartbeats 16000000 in
theorem row_con (k : Nat) (iht : ∀ j, j ≤ k → ConT (rThing j)) : ConN 48 (rRow (k + 1)) := by
 intro w0 w g toks p v out ok hok hN r h; simp only [rRow] at h; have HN := am hN; have HO := am hok; have IHT := am iht; have HH := am h; clear hN hok iht h; go_enter Try.func48, Try.ntmps48; go_wp2; have HR := am (Rw.new_ HN.out (Fr.refl w g g v) [] (by simp)); go_loopg [3] k (fun kq v3 w' => ∃ (p1 : Ps) (v1 : Value) (out1 : List S98) (kids : List Int), Aside0 (rRowL kq toks p1 out1 kids = some r) ∧ Aside0 (kq ≤ k) ∧ Aside0 (Rw w0 w w' g toks p1 v v1 out1 ok v3 kids))
 case atStart => exact ⟨_, _, _, _, HH, ⟨Nat.le_refl _⟩, HR⟩
 case round =>
  clear HH HR; obtain ⟨p1, v1, out1, kids, HA, HK, HR⟩ := hrel
  cases gk with
  | zero => exact absurd HA.out (by simp [rRowL])
  | succ kq =>
   have H := HA.out; clear HA; simp only [rRowL] at H; obtain ⟨Ak, ck, ek⟩ := Kd.R_slice HR.out.row; subst ek; by_cases hb : p1.bad = true
   ·rw [if_pos hb] at H; have HY := am H; have hcb := HR.out.nd.at4.2; rw [hb] at hcb; clear H hb; go_wp2_with (go_at_call 50; refine (HR.out.putc HO.out 5 r HY.out).mono ?_; rintro e w9 ⟨rfl, v9, hN, hF⟩; have HN9 := am hN; have HF9 := am hF; clear hN hF); go_ret; exact ⟨rfl, _, HN9.out, HF9.out⟩
   ·rw [if_neg hb] at H; have hcb := HR.out.nd.at4.2; have hb2 : p1.bad = false := by simpa using hb
    rw [hb2] at hcb; obtain ⟨t, h1, H⟩ := Option.bind_eq_some_iff.mp H; have H1 := am h1; clear h1 hb hb2; by_cases ht : t.2.1 = true
    ·rw [if_pos ht] at H; by_cases hlim : kids.length < 17000000000000
     case neg => rw [if_neg hlim] at H; exact absurd H (by simp)
     rw [if_pos hlim] at H; have HY := am H; have HLim := am hlim; clear H hlim
     go_wp2_with (first
      | (go_at_call 60; refine (IHT.out kq (Nat.le_of_succ_le HK.out) w0 _ g toks _ v1 out1 _ (HR.out.hok HO.out) HR.out.nd t H1.out).mono ?_; rw [ht]; rintro e w2 ⟨rfl, v2, hN, hF⟩; have HR2 := am (HR.out.call hN hF); clear hN hF)
      | ((with_reducible refine gate_builtin (b := .append) (xs := #[.tmp 19, .tmp 21]) rfl ?_); at_builtin; refine Kd.R_append (Kd.int .i64) (w0 := w2) (W := w2) w0.heap.size rfl (.tmp 19) (.tmp 21) 90 3 (.int .i64 0) 8 rfl Try.underlying90 infInt rfl (by decide) (by decide) (.slice Ak kids.length ck) kids t.1 [.int .i64 t.1] (fun q => some q = (Value.slice Ak kids.length ck).ownBlock ∨ w2.heap.size ≤ q) (fun _ => False) rfl rfl ?aP ?aK ?aF ?aO ?aB ?aS ?aL ?_; (case aP => rfl); (case aK => exact fun _ hq => hq.elim); (case aF => exact fun q hq => Or.inr hq); (case aO => exact Kd.R_mono HR2.out.row (fun q hq => Or.inl hq)); (case aB => exact Below.refl _ _); (case aS => exact HR2.out.nd.bel.size); (case aL => (have := HLim.out; omega)); intro kv2 w3 ho hb hg hat; have HR3 := am (HR2.out.append ho hb hg hat); clear ho hb hg hat))
     go_roundg kq
     case measure => exact Nat.lt_succ_self _
     case rel => exact ⟨_, _, _, _, HY, ⟨Nat.le_of_succ_le HK.out⟩, HR3⟩
    ·rw [if_neg ht] at H; have HY := am H; have ht2 : t.2.1 = false := by simpa using ht
     clear H ht
     go_wp2_with (first
      | (go_at_call 60; refine (IHT.out kq (Nat.le_of_succ_le HK.out) w0 _ g toks _ v1 out1 _ (HR.out.hok HO.out) HR.out.nd t H1.out).mono ?_; rw [ht2]; rintro e w2 ⟨rfl, v2, hN, hF⟩; have HR2 := am (HR.out.call hN hF); clear hN hF)
      | (go_at_call 50; refine (HR2.out.putc HO.out 5 r HY.out).mono ?_; rintro e w9 ⟨rfl, v9, hN, hF⟩; have HN9 := am hN; have HF9 := am hF; clear hN hF))
     go_ret; exact ⟨rfl, _, HN9.out, HF9.out⟩
set_option maxHeartbeats 16000000 in
theorem alts_con (k : Nat) (ihr : ∀ j, j ≤ k → ConN 48 (rRow j)) : ConN 38 (rAlts (k + 1)) := by
 intro w0 w g toks p v out ok hok hN r h; simp only [rAlts] at h; obtain ⟨r1, h1, h⟩ := Option.bind_eq_some_iff.mp h; have HN := am hN; have HO := am hok; have IHR := am ihr; have HH := am h; have H1 := am h1; clear hN hok ihr h h1; go_enter Try.func38, Try.ntmps38
 go_wp2_with (first
  | (go_at_call 47; refine HN.out.down.mono ?_; rintro e w1 ⟨rfl, hN, hk⟩; have HN1 := am hN; have HF1 := am (Nd.fr (v := v) (w0 := w0) hk); clear hN hk)
  | (go_at_call 48; refine (IHR.out k (Nat.le_refl _) w0 _ g toks _ v out ok (okUp HO.out HF1.out) HN1.out r1 H1.out).mono ?_; rintro e w2 ⟨rfl, v2, hN, hF⟩; have HR := am (Rw.new_ hN (HF1.out.trans hF) [r1.1] (by simp)); clear hN hF))
 go_loopg [3] k (fun kq v3 w' => ∃ (p1 : Ps) (v1 : Value) (out1 : List S98) (kids : List Int), Aside0 (rAltsL kq toks p1 out1 kids = some r) ∧ Aside0 (kq ≤ k) ∧ Aside0 (Rw w0 w w' g toks p1 v v1 out1 ok v3 kids))
 case atStart => exact ⟨_, _, _, _, HH, ⟨Nat.le_refl _⟩, HR⟩
 case round =>
  clear HH HR H1 HN1 HF1; obtain ⟨p1, v1, out1, kids, HA, HK, HR⟩ := hrel
  cases gk with
  | zero => exact absurd HA.out (by simp [rAltsL])
  | succ kq =>
   have H := HA.out; clear HA; simp only [rAltsL] at H; obtain ⟨Ak, ck, ek⟩ := Kd.R_slice HR.out.row; subst ek; by_cases d : rIs toks p1 ⟨#[124]⟩ = true
   ·rw [if_pos d] at H; obtain ⟨t, h1, H⟩ := Option.bind_eq_some_iff.mp H; by_cases hlim : kids.length < 17000000000000
    case neg => rw [if_neg hlim] at H; exact absurd H (by simp)
    rw [if_pos hlim] at H; have H1 := am h1; have HY := am H; have HLim := am hlim; have hs := sgT d; clear H hlim d h1
    go_wp2_with (first
     | (go_at_call 36; (with_reducible refine (HR.out.nd.sign ⟨#[124]⟩).mono ?_); rw [hs]; rintro e w1 ⟨rfl, hN, hk⟩; have HR1 := am (HR.out.keep hN hk); clear hN hk)
     | (go_at_call 48; refine (IHR.out kq (Nat.le_of_succ_le HK.out) w0 _ g toks _ v1 out1 _ (HR1.out.hok HO.out) HR1.out.nd t H1.out).mono ?_; rintro e w2 ⟨rfl, v2, hN, hF⟩; have HR2 := am (HR1.out.call hN hF); clear hN hF)
     | ((with_reducible refine gate_builtin (b := .append) (xs := #[.tmp 11, .tmp 14]) rfl ?_); at_builtin; refine Kd.R_append (Kd.int .i64) (w0 := w2) (W := w2) w0.heap.size rfl (.tmp 11) (.tmp 14) 90 3 (.int .i64 0) 8 rfl Try.underlying90 infInt rfl (by decide) (by decide) (.slice Ak kids.length ck) kids t.1 [.int .i64 t.1] (fun q => some q = (Value.slice Ak kids.length ck).ownBlock ∨ w2.heap.size ≤ q) (fun _ => False) rfl rfl ?aP ?aK ?aF ?aO ?aB ?aS ?aL ?_; (case aP => rfl); (case aK => exact fun _ hq => hq.elim); (case aF => exact fun q hq => Or.inr hq); (case aO => exact Kd.R_mono HR2.out.row (fun q hq => Or.inl hq)); (case aB => exact Below.refl _ _); (case aS => exact HR2.out.nd.bel.size); (case aL => (have := HLim.out; omega)); intro kv2 w3 ho hb hg hat; have HR3 := am (HR2.out.append ho hb hg hat); clear ho hb hg hat))
    go_roundg kq
    case measure => exact Nat.lt_succ_self _
    case rel => exact ⟨_, _, _, _, HY, ⟨Nat.le_of_succ_le HK.out⟩, HR3⟩
   ·rw [if_neg d] at H; have HY := am H; have hs := sgF d; have hp := sgP d; clear H d
    go_wp2_with (first
     | (go_at_call 36; (with_reducible refine (HR.out.nd.sign ⟨#[124]⟩).mono ?_); rw [hs, hp]; rintro e w1 ⟨rfl, hN, hk⟩; have HR1 := am (HR.out.keep hN hk); clear hN hk)
     | (go_at_call 49; refine HR1.out.nd.up.mono ?_; rintro e w2 ⟨rfl, hN, hk⟩; have HR2 := am (HR1.out.keep hN hk); clear hN hk)
     | (go_at_call 50; refine (HR2.out.putc HO.out 6 r HY.out).mono ?_; rintro e w9 ⟨rfl, v9, hN, hF⟩; have HN9 := am hN; have HF9 := am hF; clear hN hF))
    go_ret; exact ⟨rfl, _, HN9.out, HF9.out⟩
theorem all_conN : ∀ k, ConT (rThing k) ∧ ConN 48 (rRow k) ∧ ConN 38 (rAlts k) := by
 intro k
 induction k using Nat.strongRecOn with
 | _ k ih =>
 cases k with
 | zero =>
  refine ⟨?_, ?_, ?_⟩ <;> intro w0 w g toks p v out ok hok hN r h
  ·exact absurd h (by simp [rThing])
  ·exact absurd h (by simp [rRow])
  ·exact absurd h (by simp [rAlts])
 | succ k =>
  have i := fun j (hj : j ≤ k) => ih j (Nat.lt_succ_of_le hj)
  exact ⟨thing_con k (i k (Nat.le_refl _)).2.2, row_con k (fun j hj => (i j hj).1), alts_con k (fun j hj => (i j hj).2.1)⟩
theorem infoSRule : (Try.prog.info? 82).map (fun i => (i.zero, i.size, i.bytes)) = some (some (.agg #[(.string ⟨#[]⟩), (.slice none 0 0), (.int .i64 0)]), 3, 48) := by kernel_rfl
def rParams : Nat → List S84 → Ps → Bool → List ByteArray → Option (Bool × Ps × List ByteArray)
 | 0, _, _, _, _ => none
 | k + 1, toks, p, ok, ps => if ps.length < 2000000000000 then (if rIs toks (rKind toks p 1).2.2 ⟨#[44]⟩ = true then rParams k toks (rSign toks (rKind toks p 1).2.2 ⟨#[44]⟩).2 (ok && (rKind toks p 1).2.1) (ps ++ [(rKind toks p 1).1]) else some (ok && (rKind toks p 1).2.1, (rKind toks p 1).2.2, ps ++ [(rKind toks p 1).1])) else none
def rName (toks : List S84) (p : Ps) : ByteArray × Bool × Ps := if (rKind toks p 1).2.1 = true then rKind toks p 1 else rKind toks (rKind toks p 1).2.2 6
def rHead (k : Nat) (toks : List S84) (ok : Bool) (p : Ps) : Option (Bool × Ps × List ByteArray) :=
 if ok = true then (if 0 ≤ p.at_ - 1 then (if p.at_ - 1 < (toks.length : Int) then (if (rd_T84 toks (p.at_ - 1)).f0 = 6 then ((rParams k toks p ok []).bind fun q => some (q.1, rWant toks q.2.1 ⟨#[41]⟩, q.2.2)) else some (ok, p, [])) else none) else none) else some (ok, p, [])
def rArrow (toks : List S84) (q : Bool × Ps) : Ps := if q.1 = true then rWant toks q.2 ⟨#[45, 62]⟩ else ⟨(rWant toks q.2 ⟨#[45, 62]⟩).at_, (rWant toks q.2 ⟨#[45, 62]⟩).deep, true⟩
def rRules : Nat → List S84 → Ps → List S98 → List S82 → Option (Ps × List S98 × List S82)
 | 0, _, _, _, _ => none
 | k + 1, toks, p, out, rules => if p.bad = true then some (p, out, rules) else if p.at_ < (toks.length : Int) then
   ((rHead k toks (rName toks p).2.1 (rName toks p).2.2).bind fun q => if (rArrow toks (q.1, q.2.1)).bad = true then some (rArrow toks (q.1, q.2.1), out, rules)
    else (rAlts k toks (rArrow toks (q.1, q.2.1)) out).bind fun r => (if rules.length < 2000000000000 then rRules k toks (rWant toks r.2.1 ⟨#[59]⟩) r.2.2 (rules ++ [⟨(rName toks p).1, q.2.2, r.1⟩]) else none)) else some (p, out, rules)
structure Sf (w w1 wl : World) (g gt gx : Nat) (toks : List S84) (p : Ps) (v rv : Value) (out : List S98) (rules : List S82) (x : Nat → Prop) : Prop where
 nd : Nd w1 wl g toks p v out (fun q => q ≠ gx ∧ some q ≠ rv.ownBlock ∧ ¬ x q)
 wb : Below w.heap.size w w1
 bt : wl.heap[gt]? = some (.cells #[.slice none 0 0, .slice none 0 0] 53 (0, 0))
 bx : wl.heap[gx]? = some (.cells #[.slice none 0 0, rv] 53 (0, 0))
 gtn : w.heap.size ≤ gt ∧ gt < w1.heap.size
 gxn : w1.heap.size ≤ gx
 xg : ¬ x g ∧ ¬ x gx
 xn : ∀ k, x k → w1.heap.size ≤ k
 row : Kd.N k82 82 wl w1.heap.size (fun k => k ≠ g ∧ k ≠ gx ∧ some k ≠ v.ownBlock ∧ ¬ x k ∧ w1.heap.size ≤ k) rv rules
section
variable {w w1 wl w2 : World} {g gt gx : Nat} {toks : List S84} {p p' : Ps} {v v2 rv : Value} {out out' : List S98} {rules : List S82} {x x' : Nat → Prop}
theorem Sf.gge (h : Sf w w1 wl g gt gx toks p v rv out rules x) : w1.heap.size ≤ g ∧ g < wl.heap.size := by
 obtain ⟨A0, c0, hb, hg, _⟩ := h.nd.inn; exact ⟨hg, blk_lt hb⟩
theorem Sf.gne (h : Sf w w1 wl g gt gx toks p v rv out rules x) : gx ≠ g := by
 rintro rfl; obtain ⟨A0, c0, hb, _, _⟩ := h.nd.inn; have h2 := h.bx.symm.trans hb; injection h2 with h2
 injection h2 with _ h2 _
 exact absurd h2 (by decide)
theorem Sf.gtne (h : Sf w w1 wl g gt gx toks p v rv out rules x) : gt ≠ g ∧ gt ≠ gx ∧ v.ownBlock ≠ some gt ∧ rv.ownBlock ≠ some gt ∧ ¬ x gt := by
 have h1 := h.gge; have h2 := h.gtn.2; have h3 := h.gxn; exact ⟨by omega, by omega, fun e => by have := (h.nd.own.2 gt e).2.1; omega, fun e => by have := Kd.N_base h.row gt e; omega, fun e => by have := h.xn gt e; omega⟩
theorem Sf.vne (h : Sf w w1 wl g gt gx toks p v rv out rules x) : v.ownBlock ≠ some gx ∧ v.ownBlock ≠ some g := ⟨(Kd.R_ne h.nd.row h.bx (by decide)).symm, h.nd.own.1.symm⟩
theorem Sf.rlt (h : Sf w w1 wl g gt gx toks p v rv out rules x) : ∀ k, rv.ownBlock = some k → (k ≠ g ∧ k ≠ gx ∧ some k ≠ v.ownBlock ∧ ¬ x k ∧ w1.heap.size ≤ k) ∧ k < wl.heap.size := fun k hk => ⟨h.row.1 k hk, Kd.N_lt h.row k hk⟩
theorem Nd.step {w0 w w' : World} {g : Nat} {toks : List S84} {p : Ps} {v : Value} {out : List S98} {ok : Nat → Prop} (h : Nd w0 w g toks p v out ok) (hg : w'.heap[g]? = w.heap[g]?) (hs : ∀ k, ok k → k < w.heap.size → w'.heap[k]? = w.heap[k]?) (hb : Below w0.heap.size w0 w') : Nd w0 w' g toks p v out ok := by
 obtain ⟨A0, c0, e, ge, hC⟩ := h.inn; exact ⟨⟨A0, c0, hg.trans e, ge, hC⟩, h.pos, hb, Kd.R_mono (Kd.R_move (Kd.R_bound h.row) (fun k hk => hs k hk.1 hk.2.2.1)) (fun k hk => hk.1)⟩
theorem Sf.step (h : Sf w w1 wl g gt gx toks p v rv out rules x) (hs : ∀ k, ¬ x k → k < wl.heap.size → w2.heap[k]? = wl.heap[k]?) (hb : Below w1.heap.size w1 w2) : Sf w w1 w2 g gt gx toks p v rv out rules x :=
 ⟨h.nd.step (hs g h.xg.1 h.gge.2) (fun k hk hlt => hs k hk.2.2 hlt) hb, h.wb, (hs gt h.gtne.2.2.2.2 (blk_lt h.bt)).trans h.bt, (hs gx h.xg.2 (blk_lt h.bx)).trans h.bx, h.gtn, h.gxn, h.xg, h.xn, Kd.N_step h.row (fun k hk hlt => hs k hk.2.2.2.1 hlt)⟩
theorem Sf.below (h : Sf w w1 wl g gt gx toks p v rv out rules x) (hb : Below wl.heap.size wl w2) : Sf w w1 w2 g gt gx toks p v rv out rules x := h.step (fun k _ hlt => hb.block k hlt) (h.nd.bel.trans (hb.mono h.nd.bel.size))
theorem Sf.mono (h : Sf w w1 wl g gt gx toks p v rv out rules x) (hx : ∀ k, x' k → k < wl.heap.size → x k) (hn : ∀ k, x' k → w1.heap.size ≤ k) : Sf w w1 wl g gt gx toks p v rv out rules x' :=
 ⟨h.nd.mono (fun q hq hlt => ⟨hq.1, hq.2.1, fun e => hq.2.2 (hx q e hlt)⟩), h.wb, h.bt, h.bx, h.gtn, h.gxn, ⟨fun e => h.xg.1 (hx g e h.gge.2), fun e => h.xg.2 (hx gx e (blk_lt h.bx))⟩, hn, Kd.N_mono (Kd.N_bound h.row) (fun k hk => ⟨hk.1.1, hk.1.2.1, hk.1.2.2.1, fun e => hk.1.2.2.2.1 (hx k e hk.2), hk.1.2.2.2.2⟩)⟩
theorem Sf.turn (h : Sf w w1 wl g gt gx toks p v rv out rules x) (hN : Nd w1 w2 g toks p' v2 out' (fun q => q ≠ gx ∧ some q ≠ rv.ownBlock ∧ ¬ x q)) (hF : Fr wl w2 g g v v2) : Sf w w1 w2 g gt gx toks p' v2 rv out' rules x := by
 have ht := h.gtne; refine ⟨hN, h.wb, (hF.same gt (blk_lt h.bt) ht.1 ht.1 ht.2.2.1).trans h.bt, (hF.same gx (blk_lt h.bx) h.gne h.gne h.vne.1).trans h.bx, h.gtn, h.gxn, h.xg, h.xn, Kd.N_mono (Kd.N_step (Kd.N_bound h.row) (fun k hk hlt => hF.same k hlt hk.1.1 hk.1.1 (Ne.symm hk.1.2.2.1))) (fun k hk => ⟨hk.1.1, hk.1.2.1, fun e => ?_, hk.1.2.2.2⟩)⟩; rcases hF.at_ with e2 | ⟨q, e2, hq⟩
 ·exact hk.1.2.2.1 (e.trans e2)
 ·have := Option.some.inj (e.trans e2); have := hk.2; omega
theorem Sf.keep (h : Sf w w1 wl g gt gx toks p v rv out rules x) (hN : Nd w1 w2 g toks p' v out (fun q => q ≠ gx ∧ some q ≠ rv.ownBlock ∧ ¬ x q)) (hk : KeepBut wl w2 g none) : Sf w w1 w2 g gt gx toks p' v rv out rules x := h.turn hN (Fr.of_keep hk g v)
theorem Sf.fin (h : Sf w w1 wl g gt gx toks p v rv out rules (fun _ => False)) : (wl.setCell ⟨gx, 0, none⟩ v).cell? ⟨g, 3, none⟩ = some (.bool p.bad) ∧ (wl.setCell ⟨gx, 0, none⟩ v).heap[gx]? = some (.cells #[v, rv] 53 (0, 0)) ∧ (wl.setCell ⟨gx, 0, none⟩ v).heap[gt]? = some (.cells #[.slice none 0 0, .slice none 0 0] 53 (0, 0)) ∧
  Kd.N k98 98 (wl.setCell ⟨gx, 0, none⟩ v) w.heap.size (fun k => (w.heap.size ≤ k ∧ some k ≠ rv.ownBlock) ∧ k ≠ gt) v out ∧ Kd.N k82 82 (wl.setCell ⟨gx, 0, none⟩ v) w.heap.size (fun k => (w.heap.size ≤ k ∧ some k ≠ v.ownBlock) ∧ k ≠ gt) rv rules ∧ Below w.heap.size w (wl.setCell ⟨gx, 0, none⟩ v) := by
 have h1 := h.wb.size; have h2 := h.gtn.2; refine ⟨((h.nd.far (fun q hq => hq.1) (Ne.symm h.gne) h.gxn 0 v).at4).2, blk_put h.bx 0 v rfl, (Below.heap_setCell wl ⟨gx, 0, none⟩ v gt h.gtne.2.1).trans h.bt, ?_, ?_, below_set (h.wb.trans (h.nd.bel.mono h1)) (Nat.le_trans h1 h.gxn)⟩
 ·exact Kd.N_mono (Kd.N_lower (Kd.R_N (Kd.R_far (p := ⟨gx, 0, none⟩) (Kd.R_bound h.nd.row) (fun k hk => hk.1.1) v)) h1) (fun k hk => ⟨⟨by have := hk.2.1; omega, hk.1.2.1⟩, by have := hk.2.1; omega⟩)
 ·exact Kd.N_mono (Kd.N_lower (Kd.N_far (p := ⟨gx, 0, none⟩) h.row (fun k hk => hk.2.1) v) h1) (fun k hk => ⟨⟨by have := hk.2.2.2.2; omega, hk.2.2.1⟩, by have := hk.2.2.2.2; omega⟩)
end
structure Sr (w w1 wl : World) (g gt gx : Nat) (toks : List S84) (p : Ps) (v rv : Value) (out : List S98) (rules : List S82) (gr : Nat) (nm : ByteArray) (pv : Value) (ps : List ByteArray) (bd : Int) : Prop where
 sf : Sf w w1 wl g gt gx toks p v rv out rules (fun k => k = gr ∨ some k = pv.ownBlock)
 br : wl.heap[gr]? = some (.cells #[.string nm, pv, .int .i64 bd] 82 (0, 0))
 prow : Kd.N Kd.string 9 wl w1.heap.size (fun k => k ≠ g ∧ k ≠ gx ∧ k ≠ gr ∧ some k ≠ v.ownBlock ∧ some k ≠ rv.ownBlock ∧ w1.heap.size ≤ k) pv ps
section
variable {w w1 wl w2 w3 : World} {g gt gx : Nat} {toks : List S84} {p p' : Ps} {v v2 rv rv2 : Value} {out out' : List S98} {rules rules2 : List S82} {gr : Nat} {nm : ByteArray} {pv pv2 : Value} {ps ps2 : List ByteArray} {bd : Int}
theorem Sr.new_ (h : Sf w w1 wl g gt gx toks p v rv out rules (fun _ => False)) (hb : Below wl.heap.size wl w2) (hc : w2.heap[wl.heap.size]? = some (.cells #[.string nm, .slice none 0 0, .int .i64 0] 82 (0, 0))) : Sr w w1 w2 g gt gx toks p v rv out rules wl.heap.size nm (.slice none 0 0) [] 0 :=
 ⟨(h.mono (x' := fun k => k = wl.heap.size ∨ some k = (Value.slice none 0 0).ownBlock) (fun k hk hlt => by rcases hk with e | e; omega; simp [Value.ownBlock] at e) (fun k hk => by rcases hk with e | e; rw [e]; exact h.nd.bel.size; simp [Value.ownBlock] at e)).below hb, hc, Kd.N_nil _ _ _ _ _⟩
theorem Sr.grne (h : Sr w w1 wl g gt gx toks p v rv out rules gr nm pv ps bd) : gr ≠ g ∧ gr ≠ gx ∧ v.ownBlock ≠ some gr ∧ rv.ownBlock ≠ some gr ∧ pv.ownBlock ≠ some gr := by
 refine ⟨fun e => h.sf.xg.1 (.inl e.symm), fun e => h.sf.xg.2 (.inl e.symm), (Kd.R_ne h.sf.nd.row h.br (by decide)).symm, fun e => (h.sf.rlt gr e).1.2.2.2.1 (.inl rfl), fun e => (h.prow.1 gr e).2.2.1 rfl⟩
theorem Sr.turn (h : Sr w w1 wl g gt gx toks p v rv out rules gr nm pv ps bd) (hN : Nd w1 w2 g toks p' v2 out' (fun q => q ≠ gx ∧ some q ≠ rv.ownBlock ∧ ¬ (q = gr ∨ some q = pv.ownBlock))) (hF : Fr wl w2 g g v v2) : Sr w w1 w2 g gt gx toks p' v2 rv out' rules gr nm pv ps bd := by
 have hg := h.grne; refine ⟨h.sf.turn hN hF, (hF.same gr (blk_lt h.br) hg.1 hg.1 hg.2.2.1).trans h.br, Kd.N_mono (Kd.N_step (Kd.N_bound h.prow) (fun k hk hlt => hF.same k hlt hk.1.1 hk.1.1 (Ne.symm hk.1.2.2.2.1))) (fun k hk => ⟨hk.1.1, hk.1.2.1, hk.1.2.2.1, fun e => ?_, hk.1.2.2.2.2⟩)⟩; rcases hF.at_ with e2 | ⟨q, e2, hq⟩
 ·exact hk.1.2.2.2.1 (e.trans e2)
 ·have := Option.some.inj (e.trans e2); have := hk.2; omega
theorem Sr.keep (h : Sr w w1 wl g gt gx toks p v rv out rules gr nm pv ps bd) (hN : Nd w1 w2 g toks p' v out (fun q => q ≠ gx ∧ some q ≠ rv.ownBlock ∧ ¬ (q = gr ∨ some q = pv.ownBlock))) (hk : KeepBut wl w2 g none) : Sr w w1 w2 g gt gx toks p' v rv out rules gr nm pv ps bd := h.turn hN (Fr.of_keep hk g v)
theorem Sr.setBad (h : Sr w w1 wl g gt gx toks p v rv out rules gr nm pv ps bd) : Sr w w1 (wl.setCell ⟨g, 3, none⟩ (.bool true)) g gt gx toks ⟨p.at_, p.deep, true⟩ v rv out rules gr nm pv ps bd := h.turn h.sf.nd.setBad ⟨by simp [World.setCell], fun i _ hg _ _ => Below.heap_setCell wl ⟨g, 3, none⟩ _ i hg, .inl rfl⟩
theorem Sr.below (h : Sr w w1 wl g gt gx toks p v rv out rules gr nm pv ps bd) (hb : Below wl.heap.size wl w2) : Sr w w1 w2 g gt gx toks p v rv out rules gr nm pv ps bd := ⟨h.sf.below hb, (hb.block gr (blk_lt h.br)).trans h.br, Kd.N_below h.prow hb⟩
theorem Sr.hok (h : Sr w w1 wl g gt gx toks p v rv out rules gr nm pv ps bd) : ∀ q, wl.heap.size ≤ q → q ≠ gx ∧ some q ≠ rv.ownBlock ∧ ¬ (q = gr ∨ some q = pv.ownBlock) := fun q hq => ⟨fun e => by have := blk_lt h.sf.bx; omega, fun e => by have := Kd.N_lt h.sf.row q e.symm; omega, fun e => by rcases e with e | e; (have := blk_lt h.br; omega); (have := Kd.N_lt h.prow q e.symm; omega)⟩
theorem Sr.fresh (h : Sr w w1 wl g gt gx toks p v rv out rules gr nm pv ps bd) : ∀ k, wl.heap.size ≤ k → k ≠ g ∧ k ≠ gx ∧ k ≠ gr ∧ some k ≠ v.ownBlock ∧ some k ≠ rv.ownBlock ∧ w1.heap.size ≤ k := fun k hk => ⟨by have := h.sf.gge.2; omega, by have := blk_lt h.sf.bx; omega, by have := blk_lt h.br; omega, fun e => by have := (h.sf.nd.own.2 k e.symm).2.2; omega, fun e => by have := Kd.N_lt h.sf.row k e.symm; omega, Nat.le_trans h.sf.nd.bel.size hk⟩
theorem Sr.put (h : Sr w w1 wl g gt gx toks p v rv out rules gr nm pv ps bd) (row : Kd.N Kd.string 9 w3 w1.heap.size (fun k => k ≠ g ∧ k ≠ gx ∧ k ≠ gr ∧ some k ≠ v.ownBlock ∧ some k ≠ rv.ownBlock ∧ w1.heap.size ≤ k) pv2 ps2) (hb : Below w1.heap.size wl w3) (hg : wl.grownBy w3 pv.ownBlock) (hat : pv2.ownBlock = pv.ownBlock ∨ ∃ b, pv2.ownBlock = some b ∧ wl.heap.size ≤ b) : Sr w w1 (w3.setCell ⟨gr, 1, none⟩ pv2) g gt gx toks p v rv out rules gr nm pv2 ps2 bd := by
 have hr := h.grne; have hgl := blk_lt h.br; have hgn := h.sf.xn gr (.inl rfl); have hm1 := (h.sf.mono (x' := fun k => k = gr ∨ some k = pv.ownBlock ∨ wl.heap.size ≤ k) (fun k hk hlt => by rcases hk with e | e | e; exact .inl e; exact .inr e; omega) (fun k hk => by rcases hk with e | e | e; exact h.sf.xn k (.inl e); exact h.sf.xn k (.inr e); exact Nat.le_trans h.sf.nd.bel.size e)).step (w2 := w3.setCell ⟨gr, 1, none⟩ pv2) (fun k hk hlt => (Below.heap_setCell w3 ⟨gr, 1, none⟩ pv2 k (fun e => hk (.inl e))).trans (hg.block k hlt (fun e => hk (.inr (.inl e))))) (below_set (h.sf.nd.bel.trans hb) hgn); refine ⟨hm1.mono (fun k hk _ => ?_) (fun k hk => ?_), blk_put (blk_grown h.br hg (Ne.symm hr.2.2.2.2)) 1 pv2 rfl, Kd.N_far (p := ⟨gr, 1, none⟩) row (fun k hk => hk.2.2.1) _⟩
 ·rcases hk with e | e
  ·exact .inl e
  ·rcases hat with e2 | ⟨b, e2, hb2⟩
   ·rw [e2] at e; exact .inr (.inl e)
   ·rw [e2] at e; have := Option.some.inj e; exact .inr (.inr (by omega))
 ·rcases hk with e | e
  ·rw [e]; exact hgn
  ·exact (row.1 k e.symm).2.2.2.2.2
theorem Sr.body (h : Sr w w1 wl g gt gx toks p v rv out rules gr nm pv ps bd) (b : Int) : Sr w w1 (wl.setCell ⟨gr, 2, none⟩ (.int .i64 b)) g gt gx toks p v rv out rules gr nm pv ps b :=
 ⟨h.sf.step (fun k hk hlt => Below.heap_setCell wl ⟨gr, 2, none⟩ _ k (fun e => hk (.inl e))) (below_set h.sf.nd.bel (h.sf.xn gr (.inl rfl))), blk_put h.br 2 _ rfl, Kd.N_far (p := ⟨gr, 2, none⟩) h.prow (fun k hk => hk.2.2.1) _⟩
theorem Sr.end_ (h : Sr w w1 wl g gt gx toks p v rv out rules gr nm pv ps bd) (row : Kd.N k82 82 w3 w1.heap.size (fun k => k ≠ g ∧ k ≠ gx ∧ some k ≠ v.ownBlock ∧ w1.heap.size ≤ k) rv2 rules2) (hb : Below w1.heap.size wl w3) (hg : wl.grownBy w3 rv.ownBlock) (hat : rv2.ownBlock = rv.ownBlock ∨ ∃ b, rv2.ownBlock = some b ∧ wl.heap.size ≤ b) : Sf w w1 (w3.setCell ⟨gx, 1, none⟩ rv2) g gt gx toks p v rv2 out rules2 (fun _ => False) := by
 have ht := h.sf.gtne; have hxr : some gx ≠ rv.ownBlock := fun e => (h.sf.rlt gx e.symm).1.2.1 rfl
 have h1 := ((h.sf.nd.mono (ok' := fun q => (q ≠ gx ∧ some q ≠ rv.ownBlock) ∧ q < wl.heap.size) (fun q hq hlt => ⟨⟨hq.1, hq.2.1⟩, hlt⟩)).grown hg (fun e => (h.sf.rlt g e.symm).1.1 rfl) (fun q hq => hq.1.2) hb).far (gx := gx) (fun q hq => hq.1.1) (Ne.symm h.sf.gne) h.sf.gxn 1 rv2; refine ⟨h1.mono (fun q hq _ => ⟨hq.1.1, fun e => ?_, id⟩), h.sf.wb, (Below.heap_setCell w3 ⟨gx, 1, none⟩ rv2 gt ht.2.1).trans (blk_grown h.sf.bt hg (Ne.symm ht.2.2.2.1)), blk_put (blk_grown h.sf.bx hg hxr) 1 rv2 rfl, h.sf.gtn, h.sf.gxn, ⟨id, id⟩, fun k hk => hk.elim, Kd.N_mono (Kd.N_far (p := ⟨gx, 1, none⟩) row (fun k hk => hk.2.1) _) (fun k hk => ⟨hk.1, hk.2.1, hk.2.2.1, id, hk.2.2.2⟩)⟩; rcases hat with e2 | ⟨b, e2, hb2⟩
 ·exact hq.1.2 (e.trans e2)
 ·have := Option.some.inj (e.trans e2); have := hq.2; omega
end
def spec_ReadSurface.f (k : Nat) (s : ByteArray) : Option (List S98 × List S82 × Bool) :=
 (spec_Tokens.f k s).bind fun t => if t.2 = 0 then ((rRules k t.1 ⟨0, 0, false⟩ [] []).bind fun r => if r.1.bad = true then some ([], [], false) else (spec_SurfaceOk.f k r.2.1 r.2.2).bind fun b => if b = true then some (r.2.1, r.2.2, true) else some ([], [], false)) else some ([], [], false)
theorem Sf.start {w w1 wl : World} {gt : Nat} {toks : List S84} {At : Option Addr} {ct : Nat} (hb : Below w.heap.size w w1) (hgt : w1.heap[gt]? = some (.cells #[.slice none 0 0, .slice none 0 0] 53 (0, 0))) (hn : w.heap.size ≤ gt) (hC : Kd.C k84 w1 At toks.length toks) (hg : wl.heap[w1.heap.size]? = some (.cells #[.slice At toks.length ct, .int .i64 0, .int .i64 0, .bool false, .slice none 0 0] 78 (0, 0))) (hx : wl.heap[w1.heap.size + 1]? = some (.cells #[.slice none 0 0, .slice none 0 0] 53 (0, 0))) (hB : Below w1.heap.size w1 wl) :
  Sf w w1 wl w1.heap.size gt (w1.heap.size + 1) toks ⟨0, 0, false⟩ (.slice none 0 0) (.slice none 0 0) [] [] (fun _ => False) :=
 ⟨⟨⟨At, ct, hg, Nat.le_refl _, hC⟩, Int.le_refl _, hB, Kd.R_nil _ _ _ _ _⟩, hb, (hB.block gt (blk_lt hgt)).trans hgt, hx, ⟨hn, blk_lt hgt⟩, by omega, ⟨id, id⟩, fun k hk => hk.elim, Kd.N_nil _ _ _ _ _⟩
theorem Sf.cells {w w1 wl : World} {g gt gx : Nat} {toks : List S84} {p : Ps} {v rv : Value} {out : List S98} {rules : List S82} {x : Nat → Prop} (h : Sf w w1 wl g gt gx toks p v rv out rules x) : ∃ A0 c0, wl.cell? ⟨g, 0, none⟩ = some (.slice A0 toks.length c0) ∧ wl.cell? ⟨g, 1, none⟩ = some (.int .i64 p.at_) ∧ wl.cell? ⟨g, 3, none⟩ = some (.bool p.bad) ∧ wl.cell? ⟨g, 4, none⟩ = some v ∧ Kd.C k84 wl A0 toks.length toks := by
 obtain ⟨A0, c0, hb, hg, hC⟩ := h.nd.inn; exact ⟨A0, c0, (blk_cell hb 0).trans rfl, (blk_cell hb 1).trans rfl, (blk_cell hb 3).trans rfl, (blk_cell hb 4).trans rfl, Kd.C_below hC h.nd.bel⟩
set_option maxHeartbeats 16000000 in
theorem spec_ReadSurface.calls (k : Nat) (a0 : ByteArray) (r1 : List S98) (r2 : List S82) (r3 : Bool) (w : World) (h : spec_ReadSurface.f k a0 = some (r1, r2, r3)) :
  Calls Try.prog 24 #[.string a0] w fun e w' => ∃ v0_ v1_ : Value, e = .returned (.tuple #[.agg #[v0_, v1_], .bool r3]) ∧ Kd.N k98 98 w' w.heap.size (fun k_ => (w.heap.size ≤ k_) ∧ some k_ ≠ (v1_ : Value).ownBlock) v0_ r1 ∧ Kd.N k82 82 w' w.heap.size (fun k_ => (w.heap.size ≤ k_) ∧ some k_ ≠ (v0_ : Value).ownBlock) v1_ r2 ∧ Below w.heap.size w w' := by
 unfold spec_ReadSurface.f at h; obtain ⟨⟨toks, fault⟩, ht, h⟩ := Option.bind_eq_some_iff.mp h; have HH := am h; have HT := am ht; clear h ht; go_enter Try.func24, Try.ntmps24; go_upto_region 1 with fail; have hBa := below_alloc (Below.refl w.heap.size w) (.cells #[.slice none 0 0, .slice none 0 0] 53); have hza := heap_alloc_new w (.cells #[.slice none 0 0, .slice none 0 0] 53); generalize w.alloc (.cells #[.slice none 0 0, .slice none 0 0] 53) = wa at *; obtain ⟨gt, hgt⟩ : ∃ gt, gt = w.heap.size := ⟨_, rfl⟩; rw [← hgt] at hza ⊢; have hgt' : w.heap.size ≤ gt := by omega
 clear hgt; go_upto_region 2 with (go_at_call 34; refine (spec_Tokens.calls k a0 toks fault _ HT.out).mono ?_; rintro e w1 ⟨v0, rfl, hr, hb⟩; obtain ⟨At, ct, e0⟩ := Kd.R_slice hr; subst e0; have HC := am (Kd.R_reads' hr).2; have hz1 := (hb.block gt (blk_lt hza)).trans hza; have HB := am (hBa.trans (hb.mono hBa.size)); clear hr hb hBa hza); have HZ := am hz1; have hz0 : w1.cell? ⟨gt, 0, none⟩ = some (.slice none 0 0) := (blk_cell hz1 0).trans rfl; have hzf0 := blk_frozen hz1 0; have hz2 : w1.cell? ⟨gt, 1, none⟩ = some (.slice none 0 0) := (blk_cell hz1 1).trans rfl; have hzf1 := blk_frozen hz1 1; by_cases hf : fault = 0
 case neg =>
  have hh := HH.out; simp only [hf, if_false, Option.some.injEq, Prod.mk.injEq] at hh; obtain ⟨rfl, rfl, rfl⟩ := hh; have hf2 : (fault != 0) = true := by simpa using hf
  clear hf HH HT HC; go_wp2; refine bodyPost_ret (results_ct rfl _ _ gt 53 #[.slice none 0 0, .slice none 0 0] (0, 0) _ rfl (blk_put (blk_put HZ.out 0 _ rfl) 1 _ rfl) Try.underlying53 rfl (by kernel_rfl)) rfl ?_; exact ⟨_, _, rfl, Kd.N_nil _ _ _ _ _, Kd.N_nil _ _ _ _ _, below_set (below_set HB.out hgt') hgt'⟩
 subst hf; have h1 := HH.out; rw [if_pos rfl] at h1; obtain ⟨R, hR, hG⟩ := Option.bind_eq_some_iff.mp h1; have HR := am hR; have HG := am hG; have HGT := am hgt'; have hf2 : ((0 : Int) != 0) = false := rfl; clear h1 hR hG HH HT hz0 hz2 hzf0 hzf1 hz1 hgt'; go_upto_region 5 with fail; obtain ⟨g, hg⟩ : ∃ g, g = w1.heap.size := ⟨_, rfl⟩; have hbg := heap_alloc_new w1 (.cells #[.slice At toks.length ct, .int .i64 0, .int .i64 0, .bool false, .slice none 0 0] 78); have hBg := below_alloc (Below.refl w1.heap.size w1) (.cells #[.slice At toks.length ct, .int .i64 0, .int .i64 0, .bool false, .slice none 0 0] 78); have hsz : (w1.alloc (.cells #[.slice At toks.length ct, .int .i64 0, .int .i64 0, .bool false, .slice none 0 0] 78)).heap.size = g + 1 := by simp [hg]
 have HB2 := am (show w1.heap[gt]? = some (.cells #[.slice none 0 0, .slice none 0 0] 53 (0, 0)) ∧ Below w.heap.size w w1 ∧ w.heap.size ≤ gt ∧ Kd.C k84 w1 At toks.length toks ∧ g = w1.heap.size from ⟨HZ.out, HB.out, HGT.out, HC.out.2, hg⟩); clear HZ HB HGT HC; rw [← hg] at hbg ⊢; clear hg; generalize w1.alloc (.cells #[.slice At toks.length ct, .int .i64 0, .int .i64 0, .bool false, .slice none 0 0] 78) = w2 at *; go_upto_block 0 with fail
 have hHB := HB2.out; have hstart := fun (wl : World) => @Sf.start w w1 wl gt toks At ct hHB.2.1 hHB.1 hHB.2.2.1 hHB.2.2.2.1
 rw [← hHB.2.2.2.2] at hstart; have hx0 := heap_alloc_new w2 (.cells #[.slice none 0 0, .slice none 0 0] 53); rw [hsz] at hx0; have HF := am (hstart (w2.alloc (.cells #[.slice none 0 0, .slice none 0 0] 53)) (blk_alloc hbg _) hx0 (by have h9 := hHB.2.2.2.2; rw [h9]; exact hBg.trans ((below_alloc (Below.refl w2.heap.size w2) _).mono (by rw [hsz]; omega)))); clear hHB hstart hx0 hbg hBg hsz HB2; generalize w2.alloc (.cells #[.slice none 0 0, .slice none 0 0] 53) = w3 at *; obtain ⟨gx, hgx⟩ : ∃ gx, gx = g + 1 := ⟨_, rfl⟩; rw [← hgx] at HF ⊢; clear hgx; go_cut [] (fun wc => ∃ v rv, Aside0 (Sf w w1 wc g gt gx toks R.1 v rv R.2.1 R.2.2 (fun _ => False)))
 case first =>
  clear HG; go_wp2; go_loopg [] k (fun kq w' => ∃ (p : Ps) (v rv : Value) (out : List S98) (rules : List S82), Aside0 (rRules kq toks p out rules = some R) ∧ Aside0 (Sf w w1 w' g gt gx toks p v rv out rules (fun _ => False)))
  case atStart => exact ⟨_, _, _, _, _, HR, HF⟩
  case round =>
   clear HR HF; obtain ⟨p, v, rv, out, rules, HA, HF⟩ := hrel
   cases gk with
   | zero => exact absurd HA.out (by simp [rRules])
   | succ kq =>
   have H := HA.out; clear HA; simp only [rRules] at H; obtain ⟨Ai, ci, hi0, hi1, hi3, hi4, hiC⟩ := HF.out.cells
   cases hpb : p.bad with
   | true =>
    rw [hpb] at hi3; rw [if_pos hpb] at H; obtain rfl := si H; clear H; go_wp2; go_meet
    case rel => exact ⟨v, rv, HF⟩
   | false =>
   rw [hpb] at hi3; rw [if_neg (by rw [hpb]; decide)] at H; by_cases d0 : p.at_ < (toks.length : Int)
   case neg =>
    rw [if_neg d0] at H; obtain rfl := si H; have d0b : decide (p.at_ < (toks.length : Int)) = false := decide_eq_false d0; clear d0 H; go_wp2; go_meet
    case rel => exact ⟨v, rv, HF⟩
   rw [if_pos d0] at H; have d0b : decide (p.at_ < (toks.length : Int)) = true := decide_eq_true d0; have HH := am H; clear H d0 hi0 hi4; go_upto_if 45 with (go_at_call 35; refine (HF.out.nd.kind 1).mono ?_; rintro e w4 ⟨rfl, hN, hk⟩; have HF4 := am (HF.out.keep hN hk); clear hN hk)
   clear HF hi1 hi3 hiC d0b hpb; go_cut [8, 9] (fun v8 v9 wv => v8 = .string (rName toks p).1 ∧ v9 = .bool (rName toks p).2.1 ∧ Aside0 (Sf w w1 wv g gt gx toks (rName toks p).2.2 v rv out rules (fun _ => False)))
   case first =>
    clear HH
    cases hk1 : (rKind toks p 1).2.1 with
    | true =>
     have hn : rName toks p = rKind toks p 1 := by unfold rName; rw [if_pos hk1]
     go_wp2; go_meet
     case rel => rw [hn]; exact ⟨rfl, by rw [hk1], HF4⟩
    | false =>
     have hn : rName toks p = rKind toks (rKind toks p 1).2.2 6 := by unfold rName; rw [if_neg (by rw [hk1]; decide)]
     go_wp2_with (go_at_call 35; refine (HF4.out.nd.kind 6).mono ?_; rintro e w5 ⟨rfl, hN, hk⟩; have HF5 := am (HF4.out.keep hN hk); clear hN hk); go_meet
     case rel => rw [hn]; exact ⟨rfl, rfl, HF5⟩
   case rest =>
   obtain ⟨rfl, rfl, HF5⟩ := hcut; clear HF4; refine (‹∀ (a : Act) (w : World), Code.wp Try.prog _ _ a w → _›) _ _ ?_; generalize rName toks p = nq at *; obtain ⟨nm, ok, p2⟩ := nq; obtain ⟨q, hq, hH⟩ := Option.bind_eq_some_iff.mp HH.out; have HQ := am hq; have HH2 := am hH; clear HH hq hH; go_upto_region 11 with fail; have HS := am (Sr.new_ (nm := nm) HF5.out (below_alloc (Below.refl wc.heap.size wc) (.cells #[.string nm, .slice none 0 0, .int .i64 0] 82)) (heap_alloc_new wc (.cells #[.string nm, .slice none 0 0, .int .i64 0] 82))); clear HF5; obtain ⟨gr, hgr⟩ : ∃ gr, gr = wc.heap.size := ⟨_, rfl⟩; rw [← hgr] at HS ⊢; clear hgr; generalize wc.alloc (.cells #[.string nm, .slice none 0 0, .int .i64 0] 82) = wd at *; go_cut [68] (fun v68 wv => v68 = .bool (ok && ((rd_T84 toks (p2.at_ - 1)).f0 == 6)) ∧ wv = wd.drew)
   case first =>
    clear HH2
    cases ok with
    | false =>
     clear HQ HS; refine start_ (n := 16) (S := fun w' => True) (ds := []) (bmk 16 0) (by kernel_rfl) rfl rfl trivial (fun hHeld => ?_); refine px_ 0 (some 53) (bmk 16 1) ?_; refine px_ 1 (some 54) (bmk 16 3) ?_; refine pure_ (i := 2) (N := some 55) (v := undef) (a' := ?_) (bmk 16 7) rfl rfl (by kernel_rfl) (fun _ _ _ h => h) (Or.inr ⟨by rfl, rfl⟩) ?_ ?_; rotate_left
     ·simp only [ap]; rfl
     refine pure_ (i := 3) (N := some 56) (v := undef) (a' := ?_) (bmk 16 15) rfl rfl (by kernel_rfl) (fun _ _ _ h => h) (Or.inr ⟨by rfl, rfl⟩) ?_ ?_; rotate_left
     ·simp only [ap]; rfl
     refine pure_ (i := 4) (N := some 57) (v := undef) (a' := ?_) (bmk 16 31) rfl rfl (by kernel_rfl) (fun _ _ _ h => h) (Or.inr ⟨by rfl, rfl⟩) ?_ ?_; rotate_left
     ·simp only [ap]; rfl
     refine pure_ (i := 5) (N := some 58) (v := undef) (a' := ?_) (bmk 16 63) rfl rfl (by kernel_rfl) (fun _ _ _ h => h) (Or.inr ⟨by rfl, rfl⟩) ?_ ?_; rotate_left
     ·simp only [ap]; rfl
     refine pure_ (i := 6) (N := some 59) (v := undef) (a' := ?_) (bmk 16 127) rfl rfl (by kernel_rfl) (fun _ _ _ h => h) (Or.inr ⟨by rfl, rfl⟩) ?_ ?_; rotate_left
     ·simp only [ap]; rfl
     refine pure_ (i := 7) (N := some 60) (v := undef) (a' := ?_) (bmk 16 255) rfl rfl (by kernel_rfl) (fun _ _ _ h => h) (Or.inr ⟨by rfl, rfl⟩) ?_ ?_; rotate_left
     ·simp only [ap]; rfl
     refine pure_ (i := 8) (N := some 61) (v := undef) (a' := ?_) (bmk 16 511) rfl rfl (by kernel_rfl) (fun _ _ _ h => h) (Or.inr ⟨by rfl, rfl⟩) ?_ ?_; rotate_left
     ·simp only [ap]; rfl
     refine pure_ (i := 9) (N := some 62) (v := undef) (a' := ?_) (bmk 16 1023) rfl rfl (by kernel_rfl) (fun _ _ _ h => h) (Or.inr ⟨by rfl, rfl⟩) ?_ ?_; rotate_left
     ·simp only [ap]; rfl
     refine pure_ (i := 10) (N := some 63) (v := undef) (a' := ?_) (bmk 16 2047) rfl rfl (by kernel_rfl) (fun _ _ _ h => h) (Or.inr ⟨by rfl, rfl⟩) ?_ ?_; rotate_left
     ·simp only [ap]; rfl
     refine pure_ (i := 11) (N := some 64) (v := undef) (a' := ?_) (bmk 16 4095) rfl rfl (by kernel_rfl) (fun _ _ _ h => h) (Or.inr ⟨by rfl, rfl⟩) ?_ ?_; rotate_left
     ·simp only [ap]; rfl
     refine pure_ (i := 12) (N := some 65) (v := undef) (a' := ?_) (bmk 16 8191) rfl rfl (by kernel_rfl) (fun _ _ _ h => h) (Or.inr ⟨by rfl, rfl⟩) ?_ ?_; rotate_left
     ·simp only [ap]; rfl
     refine pure_ (i := 13) (N := some 66) (v := undef) (a' := ?_) (bmk 16 16383) rfl rfl (by kernel_rfl) (fun _ _ _ h => h) (Or.inr ⟨by rfl, rfl⟩) ?_ ?_; rotate_left
     ·simp only [ap]; rfl
     refine pure_ (i := 14) (N := some 67) (v := undef) (a' := ?_) (bmk 16 32767) rfl rfl (by kernel_rfl) (fun _ _ _ h => h) (Or.inr ⟨by rfl, rfl⟩) ?_ ?_; rotate_left
     ·simp only [ap]; rfl
     refine px_ 15 (some 68) (bmk 16 65535) ?_; refine done_ (by kernel_rfl) ?_; go_wp2_with fail; go_meet
     case rel => exact ⟨rfl, rfl⟩
    | true =>
     have hq := HQ.out; clear HQ; unfold rHead at hq; rw [if_pos rfl] at hq; by_cases d1 : 0 ≤ p2.at_ - 1
     case neg => rw [if_neg d1] at hq; exact absurd hq (by simp)
     rw [if_pos d1] at hq; by_cases d2 : p2.at_ - 1 < (toks.length : Int)
     case neg => rw [if_neg d2] at hq; exact absurd hq (by simp)
     obtain ⟨A0, c0, hi0, hi1, _, _, hiC⟩ := HS.out.sf.cells; obtain ⟨ad, e0, ht0, _⟩ := at_T84 hiC (p2.at_ - 1) d1 d2; subst e0; have hw1 : wrap64 (p2.at_ - 1) = p2.at_ - 1 := IntWalk.wrap64_in _ ⟨by omega, by have := hiC.2.1; omega⟩; rw [show (p2.at_ - 1).toNat = p2.at_.toNat - 1 from by omega] at ht0; have q1 := eq_true (show 1 ≤ p2.at_ by omega); have q2 := eq_true d2; clear d1 d2 hiC HS hq; refine start_ (n := 16) (S := fun w' => w'.cell? ⟨g, 0, none⟩ = some (.slice (some ad) toks.length c0) ∧ w'.cell? ⟨g, 1, none⟩ = some (.int .i64 p2.at_) ∧ w'.cell? (ad.add ((p2.at_.toNat - 1) * 2)) = some (.int .i64 (rd_T84 toks (p2.at_ - 1)).f0)) (ds := []) (bmk 16 0) (by kernel_rfl) rfl rfl ⟨hi0, hi1, ht0⟩ (fun hHeld => ?_); refine px_ 0 (some 53) (bmk 16 1) ?_; refine px_ 1 (some 54) (bmk 16 3) ?_; refine px_ 2 (some 55) (bmk 16 7) ?_; refine px_ 3 (some 56) (bmk 16 15) ?_; refine px_ 4 (some 57) (bmk 16 31) ?_; refine px_ 6 (some 59) (bmk 16 95) ?_; refine px_ 7 (some 60) (bmk 16 223) ?_; refine px_ 8 (some 61) (bmk 16 479) ?_; refine tx_ 5 (some 58) (bmk 16 511) hHeld ?_; refine tx_ 9 (some 62) (bmk 16 1023) hHeld ?_; refine px_ 10 (some 63) (bmk 16 2047) ?_; refine px_ 11 (some 64) (bmk 16 4095) ?_; refine px_ 12 (some 65) (bmk 16 8191) ?_; refine tx_ 13 (some 66) (bmk 16 16383) hHeld ?_; refine px_ 14 (some 67) (bmk 16 32767) ?_; refine px_ 15 (some 68) (bmk 16 65535) ?_; refine done_ (by kernel_rfl) ?_; go_wp2_with fail; go_meet
     case rel => exact ⟨by simp, rfl⟩
   case rest =>
   obtain ⟨rfl, rfl⟩ := hcut; refine (‹∀ (a : Act) (w : World), Code.wp Try.prog _ _ a w → _›) _ _ ?_; have HS2 := am (HS.out.below (below_drew (Below.refl _ _))); clear HS; generalize wd.drew = wd2 at *; generalize hbq : (ok && ((rd_T84 toks (p2.at_ - 1)).f0 == 6)) = bq at *; go_cut [9] (fun v9 wv => ∃ pv, v9 = .bool q.1 ∧ Aside0 (Sr w w1 wv g gt gx toks q.2.1 v rv out rules gr nm pv q.2.2 0))
   case first =>
    clear HH2; have hq := HQ.out; clear HQ
    cases ok with
    | false =>
     rw [show rHead kq toks false p2 = some (false, p2, []) from by unfold rHead; rw [if_neg (by decide)]] at hq; obtain rfl := Option.some.inj hq; clear hq; have hb : bq = false := by rw [← hbq]; rfl
     clear hbq; subst hb; go_wp2; go_meet
     case rel => exact ⟨_, rfl, HS2⟩
    | true =>
     unfold rHead at hq; rw [if_pos rfl] at hq; by_cases d1 : 0 ≤ p2.at_ - 1
     case neg => rw [if_neg d1] at hq; exact absurd hq (by simp)
     rw [if_pos d1] at hq; by_cases d2 : p2.at_ - 1 < (toks.length : Int)
     case neg => rw [if_neg d2] at hq; exact absurd hq (by simp)
     rw [if_pos d2] at hq; by_cases d6 : (rd_T84 toks (p2.at_ - 1)).f0 = 6
     case neg =>
      rw [if_neg d6] at hq; obtain rfl := Option.some.inj hq; have d6b : ((rd_T84 toks (p2.at_ - 1)).f0 == 6) = false := beq_eq_false_iff_ne.2 d6; clear d6 hq d1 d2; have hb : bq = false := by rw [← hbq, d6b]; rfl
      clear hbq; subst hb; go_wp2; go_meet
      case rel => exact ⟨_, rfl, HS2⟩
     rw [if_pos d6] at hq; obtain ⟨Q, hQ, hq⟩ := Option.bind_eq_some_iff.mp hq; obtain rfl := Option.some.inj hq; have HQ := am hQ; have d6b : ((rd_T84 toks (p2.at_ - 1)).f0 == 6) = true := beq_iff_eq.2 d6; clear hq hQ d6 d1 d2; have hb : bq = true := by rw [← hbq, d6b]; rfl
     clear hbq; subst hb; go_wp2; go_loopg [9] kq (fun kp v9 w' => ∃ (pr : Ps) (okk : Bool) (pv : Value) (ps : List ByteArray), v9 = .bool okk ∧ Aside0 (rParams kp toks pr okk ps = some Q) ∧ Aside0 (Sr w w1 w' g gt gx toks pr v rv out rules gr nm pv ps 0))
     case atStart => exact ⟨p2, true, _, [], rfl, HQ, HS2⟩
     case round =>
      clear HQ HS2; obtain ⟨pr, okk, pv, ps, rfl, HA, HS⟩ := hrel
      cases gk with
      | zero => exact absurd HA.out (by simp [rParams])
      | succ kp =>
      have H := HA.out; clear HA; simp only [rParams] at H; by_cases hlim : ps.length < 2000000000000
      case neg => rw [if_neg hlim] at H; exact absurd H (by simp)
      rw [if_pos hlim] at H; have HLim := am hlim; have HH := am H; clear H hlim; go_upto_region 13 with (go_at_call 35; refine (HS.out.sf.nd.kind 1).mono ?_; rintro e w4 ⟨rfl, hN, hk⟩; have HS4 := am (HS.out.keep hN hk); clear hN hk); clear HS; generalize rKind toks pr 1 = kd at *; obtain ⟨pn, pk, p4⟩ := kd; go_cut [9, 11] (fun v9 v11 wv => v9 = .bool (okk && pk) ∧ v11 = .string pn ∧ wv = w4)
      case first =>
       cases okk with
       | true =>
        go_wp2; go_meet
        case rel => exact ⟨by simp, rfl, rfl⟩
       | false =>
        go_wp2; go_meet
        case rel => exact ⟨by simp, rfl, rfl⟩
      case rest =>
      obtain ⟨rfl, rfl, rfl⟩ := hcut; refine (‹∀ (a : Act) (w : World), Code.wp Try.prog _ _ a w → _›) _ _ ?_; obtain ⟨Ap, cp, ep⟩ := Kd.N_slice HS4.out.prow; subst ep; have hr1 := (blk_cell HS4.out.br 1).trans (show _ = some (Value.slice Ap ps.length cp) from rfl); go_upto_region 15 with ((with_reducible refine gate_builtin (b := .append) (xs := #[.tmp 79, .tmp 81]) rfl ?_); at_builtin; refine Kd.N_append Kd.string (w0 := wc) (W := wc) w1.heap.size rfl (.tmp 79) (.tmp 81) 30 9 (.string ⟨#[]⟩) 16 rfl Try.underlying30 infStr rfl (by decide) (by decide) (.slice Ap ps.length cp) ps pn [.string pn] (fun k => k ≠ g ∧ k ≠ gx ∧ k ≠ gr ∧ some k ≠ v.ownBlock ∧ some k ≠ rv.ownBlock ∧ w1.heap.size ≤ k) (fun _ => False) rfl rfl ?aP ?aK ?aF ?aO ?aB ?aS ?aL ?_; (case aP => exact fun _ _ => rfl); (case aK => exact fun _ hk => hk.elim); (case aF => exact HS4.out.fresh); (case aO => exact HS4.out.prow); (case aB => exact Below.refl _ _); (case aS => exact HS4.out.sf.nd.bel.size); (case aL => (have := HLim.out; omega)); intro pv2 w5 ho hb hg hat; have HS5 := am (HS4.out.put ho hb hg hat); have hz := blk_grown HS4.out.br hg (Ne.symm HS4.out.grne.2.2.2.2); have hzc : w5.cell? ⟨gr, 1, none⟩ = some (.slice Ap ps.length cp) := (blk_cell hz 1).trans rfl; have hzf := blk_frozen hz 1; obtain ⟨Az, cz, ez⟩ := Kd.N_slice ho; subst ez; clear ho hb hg hat hz); clear HS4 hr1 hzc hzf; simp only [List.length_append, List.length_cons, List.length_nil, Nat.zero_add] at HS5; by_cases d : rIs toks p4 ⟨#[44]⟩ = true
      ·have H := HH.out; rw [if_pos d] at H; have HY := am H; have hs := sgT d; clear H d HH; go_wp2_with (go_at_call 36; (with_reducible refine (HS5.out.sf.nd.sign ⟨#[44]⟩).mono ?_); rw [hs]; rintro e w6 ⟨rfl, hN, hk⟩; have HS6 := am (HS5.out.keep hN hk); clear hN hk); go_roundg kp
       case measure => exact Nat.lt_succ_self _
       case rel => exact ⟨_, _, _, _, rfl, HY, HS6⟩
      ·have H := HH.out; rw [if_neg d] at H; obtain rfl := si H; have hs := sgF d; have hp := sgP d; clear H d HH; go_wp2_with (first | (go_at_call 36; (with_reducible refine (HS5.out.sf.nd.sign ⟨#[44]⟩).mono ?_); rw [hs, hp]; rintro e w6 ⟨rfl, hN, hk⟩; have HS6 := am (HS5.out.keep hN hk); clear hN hk) | (go_at_call 37; refine (HS6.out.sf.nd.want ⟨#[41]⟩).mono ?_; rintro e w7 ⟨rfl, hN, hk⟩; have HS7 := am (HS6.out.keep hN hk); clear hN hk)); go_meet
       case rel => exact ⟨_, rfl, HS7⟩
   case rest =>
   clear hbq HS2; obtain ⟨pv, rfl, HS⟩ := hcut; refine (‹∀ (a : Act) (w : World), Code.wp Try.prog _ _ a w → _›) _ _ ?_; clear HQ; obtain ⟨ok2, p3, ps⟩ := q; go_upto_if 92 with (go_at_call 37; refine (HS.out.sf.nd.want ⟨#[45, 62]⟩).mono ?_; rintro e w4 ⟨rfl, hN, hk⟩; have HS4 := am (HS.out.keep hN hk); clear hN hk)
   clear HS; go_cut [] (fun wv => Aside0 (Sr w w1 wv g gt gx toks (rArrow toks (ok2, p3)) v rv out rules gr nm pv ps 0))
   case first =>
    clear HH2
    cases ok2 with
    | true =>
     go_wp2; go_meet
     case rel => exact HS4
    | false =>
     have hc3 := HS4.out.sf.nd.at4.2; have hf3 := HS4.out.sf.nd.frozenG 3; go_wp2; go_meet
     case rel => exact ⟨HS4.out.setBad⟩
   case rest =>
   clear HS4; have HS := hcut; clear hcut; refine (‹∀ (a : Act) (w : World), Code.wp Try.prog _ _ a w → _›) _ _ ?_; have H := HH2.out; clear HH2
   generalize rArrow toks (ok2, p3) = p5 at *; have hc3 := HS.out.sf.nd.at4.2; by_cases d5 : p5.bad = true
   ·rw [if_pos d5] at H; obtain rfl := si H; rw [d5] at hc3; clear H d5; go_wp2; go_meet
    case rel => exact ⟨v, rv, ⟨HS.out.sf.mono (fun k hk _ => hk.elim) (fun k hk => hk.elim)⟩⟩
   rw [if_neg d5] at H; have d5b : p5.bad = false := by simpa using d5
   rw [d5b] at hc3; obtain ⟨ra, hra, H⟩ := Option.bind_eq_some_iff.mp H; by_cases hlim : rules.length < 2000000000000
   case neg => rw [if_neg hlim] at H; exact absurd H (by simp)
   rw [if_pos hlim] at H; have HRa := am hra; have HLim := am hlim; have HY := am H; have hr2 : wc.cell? ⟨gr, 2, none⟩ = some (.int .i64 0) := (blk_cell HS.out.br 2).trans rfl; clear H hra hlim d5 d5b; go_upto_region 22 with (go_at_call 38; refine ((all_conN kq).2.2 w1 _ g toks _ v out _ HS.out.hok HS.out.sf.nd ra HRa.out).mono ?_; rintro e w4 ⟨rfl, v4, hN, hF⟩; have HS4 := am (HS.out.turn hN hF); have hzc : w4.cell? ⟨gr, 2, none⟩ = some (.int .i64 0) := (blk_cell HS4.out.br 2).trans rfl; have hzf := blk_frozen HS4.out.br 2; clear hN hF); have HS5 := am (HS4.out.body ra.1); clear HS HS4 hc3 hr2 hzc hzf HRa; generalize w4.setCell ⟨gr, 2, none⟩ (.int .i64 ra.1) = w5 at *; go_upto_region 23 with (go_at_call 37; refine (HS5.out.sf.nd.want ⟨#[59]⟩).mono ?_; rintro e w6 ⟨rfl, hN, hk⟩; have HS6 := am (HS5.out.keep hN hk); clear hN hk); clear HS5; obtain ⟨Ap, cp, ep⟩ := Kd.N_slice HS6.out.prow; subst ep; obtain ⟨Ax, cx, ex⟩ := Kd.N_slice HS6.out.sf.row; subst ex; have hr0 : w6.cell? ⟨gr, 0, none⟩ = some (.string nm) := (blk_cell HS6.out.br 0).trans rfl; have hr1 : w6.cell? ⟨gr, 1, none⟩ = some (.slice Ap ps.length cp) := (blk_cell HS6.out.br 1).trans rfl; have hr2 : w6.cell? ⟨gr, 2, none⟩ = some (.int .i64 ra.1) := (blk_cell HS6.out.br 2).trans rfl; have hx1 : w6.cell? ⟨gx, 1, none⟩ = some (.slice Ax rules.length cx) := (blk_cell HS6.out.sf.bx 1).trans rfl; have HFR := am (show ∀ k, w6.heap.size ≤ k → k ≠ g ∧ k ≠ gx ∧ some k ≠ v4.ownBlock ∧ w1.heap.size ≤ k from fun k hk => ⟨(HS6.out.fresh k hk).1, (HS6.out.fresh k hk).2.1, (HS6.out.fresh k hk).2.2.2.1, (HS6.out.fresh k hk).2.2.2.2.2⟩); go_wp2_with ((with_reducible refine gate_builtin (b := .append) (xs := #[.tmp 106, .tmp 108]) rfl ?_); at_builtin; refine Kd.N_append k82 (w0 := w6) (W := w6) w1.heap.size rfl (.tmp 106) (.tmp 108) 51 82 (.agg #[(.string ⟨#[]⟩), (.slice none 0 0), (.int .i64 0)]) 48 rfl Try.underlying51 infoSRule rfl (by decide) (by decide) (.slice Ax rules.length cx) rules ⟨nm, ps, ra.1⟩ [.string nm, .slice Ap ps.length cp, .int .i64 ra.1] (fun k => k ≠ g ∧ k ≠ gx ∧ some k ≠ v4.ownBlock ∧ w1.heap.size ≤ k) (fun k => k ≠ g ∧ k ≠ gx ∧ k ≠ gr ∧ some k ≠ v4.ownBlock ∧ some k ≠ (Value.slice Ax rules.length cx).ownBlock ∧ w1.heap.size ≤ k) rfl rfl ?aP ?aK ?aF ?aO ?aB ?aS ?aL ?_; (case aP => exact k82_mkF _ _ ⟨nm, ps, ra.1⟩ (Kd.N_reads' HS6.out.prow).2.1 (Kd.N_F HS6.out.prow)); (case aK => exact fun k hk => ⟨⟨hk.1, hk.2.1, hk.2.2.2.1, hk.2.2.2.2.2⟩, hk.2.2.2.2.1⟩); (case aF => exact HFR.out); (case aO => exact Kd.N_mono HS6.out.sf.row (fun k hk => ⟨hk.1, hk.2.1, hk.2.2.1, hk.2.2.2.2⟩)); (case aB => exact Below.refl _ _); (case aS => exact HS6.out.sf.nd.bel.size); (case aL => (have := HLim.out; omega)); intro rv2 w7 ho hb hg hat; have HF7 := am (HS6.out.end_ ho hb hg hat); have hz := blk_grown HS6.out.sf.bx hg (Kd.N_ne HS6.out.sf.row HS6.out.sf.bx (by decide)); have hzc : w7.cell? ⟨gx, 1, none⟩ = some (.slice Ax rules.length cx) := (blk_cell hz 1).trans rfl; have hzf := blk_frozen hz 1; obtain ⟨Az, cz, ez⟩ := Kd.N_slice ho; subst ez; clear ho hb hg hat hz); go_roundg kq
   case measure => exact Nat.lt_succ_self _
   case rel => (simp only [List.length_append, List.length_cons, List.length_nil, Nat.zero_add] at HF7); exact ⟨_, v4, _, _, _, HY, HF7⟩
 case rest =>
 obtain ⟨v, rv, HF⟩ := hcut; clear HR; refine (‹∀ (a : Act) (w : World), Code.wp Try.prog _ _ a w → _›) _ _ ?_; have hc4 := HF.out.nd.at4.1; have hx0 : wc.cell? ⟨gx, 0, none⟩ = some (.slice none 0 0) := (blk_cell HF.out.bx 0).trans rfl; have hxf := blk_frozen HF.out.bx 0; obtain ⟨Av, cv, ev⟩ := Kd.R_slice HF.out.nd.row; subst ev; obtain ⟨Ax, cx, ex⟩ := Kd.N_slice HF.out.row; subst ex; go_upto_region 25 with fail; obtain ⟨hc3, hbx, hbt, hv, hrv, hbw⟩ := HF.out.fin; have HGT := am (show w.heap.size ≤ gt from HF.out.gtn.1); have HBX := am hbx; have HBT := am hbt; have HV := am hv; have HRV := am hrv; have HBW := am hbw; clear hbx hbt hv hrv hbw hc4 hx0 hxf HF; generalize wc.setCell ⟨gx, 0, none⟩ (.slice Av R.2.1.length cv) = wd at *; have hx0 : wd.cell? ⟨gx, 0, none⟩ = some (.slice Av R.2.1.length cv) := (blk_cell HBX.out 0).trans rfl; have hx1 : wd.cell? ⟨gx, 1, none⟩ = some (.slice Ax R.2.2.length cx) := (blk_cell HBX.out 1).trans rfl; have hh := HG.out; clear HG; by_cases hb : R.1.bad = true
 ·rw [if_pos hb] at hh; have hh := Option.some.inj hh; simp only [Prod.mk.injEq] at hh; obtain ⟨rfl, rfl, rfl⟩ := hh; rw [hb] at hc3; have ht0 : wd.cell? ⟨gt, 0, none⟩ = some (.slice none 0 0) := (blk_cell HBT.out 0).trans rfl; have ht1 : wd.cell? ⟨gt, 1, none⟩ = some (.slice none 0 0) := (blk_cell HBT.out 1).trans rfl; have htf0 := blk_frozen HBT.out 0; have htf1 := blk_frozen HBT.out 1; clear hb; go_wp2; refine bodyPost_ret (results_ct rfl _ _ gt 53 #[.slice none 0 0, .slice none 0 0] (0, 0) _ rfl (blk_put (blk_put HBT.out 0 _ rfl) 1 _ rfl) Try.underlying53 rfl (by kernel_rfl)) rfl ?_; exact ⟨_, _, rfl, Kd.N_nil _ _ _ _ _, Kd.N_nil _ _ _ _ _, below_set (below_set HBW.out HGT.out) HGT.out⟩
 ·rw [if_neg hb] at hh; have hb2 : R.1.bad = false := by simpa using hb
  rw [hb2] at hc3; obtain ⟨b, hbs, hh⟩ := Option.bind_eq_some_iff.mp hh; have HBS := am hbs; clear hb hb2 hbs
  cases b with
  | false =>
   rw [if_neg (by decide)] at hh; have hh := Option.some.inj hh; simp only [Prod.mk.injEq] at hh; obtain ⟨rfl, rfl, rfl⟩ := hh; go_wp2_with (go_at_call 39; refine (spec_SurfaceOk.calls k _ _ R.2.1 _ _ R.2.2 false _ (Kd.N_reads' HV.out).2.2 (Kd.N_reads' HV.out).2.1 (Kd.N_reads' HRV.out).2.2 (Kd.N_reads' HRV.out).2.1 HBS.out).mono ?_; rintro e w5 ⟨rfl, hb5⟩; replace HBT := am ((hb5.block gt (blk_lt HBT.out)).trans HBT.out); replace HBW := am (HBW.out.trans (hb5.mono HBW.out.size)); have ht0 : w5.cell? ⟨gt, 0, none⟩ = some (.slice none 0 0) := (blk_cell HBT.out 0).trans rfl; have ht1 : w5.cell? ⟨gt, 1, none⟩ = some (.slice none 0 0) := (blk_cell HBT.out 1).trans rfl; have htf0 := blk_frozen HBT.out 0; have htf1 := blk_frozen HBT.out 1; clear hb5); refine bodyPost_ret (results_ct rfl _ _ gt 53 #[.slice none 0 0, .slice none 0 0] (0, 0) _ rfl (blk_put (blk_put HBT.out 0 _ rfl) 1 _ rfl) Try.underlying53 rfl (by kernel_rfl)) rfl ?_; exact ⟨_, _, rfl, Kd.N_nil _ _ _ _ _, Kd.N_nil _ _ _ _ _, below_set (below_set HBW.out HGT.out) HGT.out⟩
  | true =>
   rw [if_pos rfl] at hh; have hh := Option.some.inj hh; simp only [Prod.mk.injEq] at hh; obtain ⟨rfl, rfl, rfl⟩ := hh; go_wp2_with (go_at_call 39; refine (spec_SurfaceOk.calls k _ _ R.2.1 _ _ R.2.2 true _ (Kd.N_reads' HV.out).2.2 (Kd.N_reads' HV.out).2.1 (Kd.N_reads' HRV.out).2.2 (Kd.N_reads' HRV.out).2.1 HBS.out).mono ?_; rintro e w5 ⟨rfl, hb5⟩; replace HBT := am ((hb5.block gt (blk_lt HBT.out)).trans HBT.out); replace HBX := am ((hb5.block gx (blk_lt HBX.out)).trans HBX.out); replace HV := am (Kd.N_below HV.out hb5); replace HRV := am (Kd.N_below HRV.out hb5); replace HBW := am (HBW.out.trans (hb5.mono HBW.out.size)); have ht0 : w5.cell? ⟨gt, 0, none⟩ = some (.slice none 0 0) := (blk_cell HBT.out 0).trans rfl; have ht1 : w5.cell? ⟨gt, 1, none⟩ = some (.slice none 0 0) := (blk_cell HBT.out 1).trans rfl; have htf0 := blk_frozen HBT.out 0; have htf1 := blk_frozen HBT.out 1; have hx0 : w5.cell? ⟨gx, 0, none⟩ = some (.slice Av R.2.1.length cv) := (blk_cell HBX.out 0).trans rfl; have hx1 : w5.cell? ⟨gx, 1, none⟩ = some (.slice Ax R.2.2.length cx) := (blk_cell HBX.out 1).trans rfl; clear hb5); refine bodyPost_ret (results_ct rfl _ _ gt 53 #[.slice Av R.2.1.length cv, .slice Ax R.2.2.length cx] (0, 0) _ rfl (blk_put (blk_put HBT.out 0 _ rfl) 1 _ rfl) Try.underlying53 rfl (by kernel_rfl)) rfl ?_; exact ⟨_, _, rfl, Kd.N_mono (Kd.N_far (p := ⟨gt, 1, none⟩) (Kd.N_far (p := ⟨gt, 0, none⟩) HV.out (fun k hk => hk.2) _) (fun k hk => hk.2) _) (fun k hk => hk.1), Kd.N_mono (Kd.N_far (p := ⟨gt, 1, none⟩) (Kd.N_far (p := ⟨gt, 0, none⟩) HRV.out (fun k hk => hk.2) _) (fun k hk => hk.2) _) (fun k hk => hk.1), below_set (below_set HBW.out HGT.out) HGT.out⟩
theorem rNum_mono (k : Nat) : ∀ y0 y1 y2, LeO (rNum k y0 y1 y2) (rNum (k + 1) y0 y1 y2) := by
 induction k with
 | zero => intros; intro r h; simp [rNum] at h
 | succ k ih =>
  intro y0 y1 y2; rw [rNum, rNum]; repeat' with_reducible first | exact ih _ _ _ | exact LeO.refl _ | refine LeO.ite ?_ ?_
theorem rExpr_mono (k : Nat) : (∀ y0 y1 y2, LeO (rSimple k y0 y1 y2) (rSimple (k + 1) y0 y1 y2)) ∧ (∀ y0 y1 y2, LeO (rSimpleOne k y0 y1 y2) (rSimpleOne (k + 1) y0 y1 y2)) ∧ (∀ y0 y1 y2, LeO (rProduct k y0 y1 y2) (rProduct (k + 1) y0 y1 y2)) ∧ (∀ y0 y1 y2 y3, LeO (rProductL k y0 y1 y2 y3) (rProductL (k + 1) y0 y1 y2 y3)) ∧ (∀ y0 y1 y2, LeO (rSum k y0 y1 y2) (rSum (k + 1) y0 y1 y2)) ∧ (∀ y0 y1 y2 y3, LeO (rSumL k y0 y1 y2 y3) (rSumL (k + 1) y0 y1 y2 y3)) ∧ (∀ y0 y1 y2, LeO (rCompare k y0 y1 y2) (rCompare (k + 1) y0 y1 y2)) ∧ (∀ y0 y1 y2, LeO (rExpr k y0 y1 y2) (rExpr (k + 1) y0 y1 y2)) ∧ (∀ y0 y1 y2 y3, LeO (rExprL k y0 y1 y2 y3) (rExprL (k + 1) y0 y1 y2 y3)) := by
 induction k with
 | zero =>
  refine ⟨?_, ?_, ?_, ?_, ?_, ?_, ?_, ?_, ?_⟩ <;> (intros; intro r h; simp [rSimple, rSimpleOne, rProduct, rProductL, rSum, rSumL, rCompare, rExpr, rExprL] at h)
 | succ k ih =>
  obtain ⟨ih0, ih1, ih2, ih3, ih4, ih5, ih6, ih7, ih8⟩ := ih; refine ⟨?_, ?_, ?_, ?_, ?_, ?_, ?_, ?_, ?_⟩
  ·intro y0 y1 y2; rw [rSimple, rSimple]; repeat' with_reducible first | exact ih1 _ _ _ | exact LeO.refl _ | refine LeO.bind ?_ (fun _ => ?_)
  ·intro y0 y1 y2; rw [rSimpleOne, rSimpleOne]; repeat' with_reducible first | exact ih0 _ _ _ | exact ih7 _ _ _ | exact rNum_mono _ _ _ _ | exact LeO.refl _ | refine LeO.ite ?_ ?_ | refine LeO.bind ?_ (fun _ => ?_)
  ·intro y0 y1 y2; rw [rProduct, rProduct]; repeat' with_reducible first | exact ih0 _ _ _ | exact ih3 _ _ _ _ | refine LeO.bind ?_ (fun _ => ?_)
  ·intro y0 y1 y2 y3; rw [rProductL, rProductL]; repeat' with_reducible first | exact ih0 _ _ _ | exact ih3 _ _ _ _ | exact LeO.refl _ | refine LeO.ite ?_ ?_ | refine LeO.bind ?_ (fun _ => ?_)
  ·intro y0 y1 y2; rw [rSum, rSum]; repeat' with_reducible first | exact ih2 _ _ _ | exact ih5 _ _ _ _ | refine LeO.bind ?_ (fun _ => ?_)
  ·intro y0 y1 y2 y3; rw [rSumL, rSumL]; repeat' with_reducible first | exact ih2 _ _ _ | exact ih5 _ _ _ _ | exact LeO.refl _ | refine LeO.ite ?_ ?_ | refine LeO.bind ?_ (fun _ => ?_)
  ·intro y0 y1 y2; rw [rCompare, rCompare]; repeat' with_reducible first | exact ih4 _ _ _ | exact LeO.refl _ | refine LeO.ite ?_ ?_ | refine LeO.bind ?_ (fun _ => ?_)
  ·intro y0 y1 y2; rw [rExpr, rExpr]; repeat' with_reducible first | exact ih6 _ _ _ | exact ih8 _ _ _ _ | refine LeO.bind ?_ (fun _ => ?_)
  ·intro y0 y1 y2 y3; rw [rExprL, rExprL]; repeat' with_reducible first | exact ih6 _ _ _ | exact ih8 _ _ _ _ | exact LeO.refl _ | refine LeO.ite ?_ ?_ | refine LeO.bind ?_ (fun _ => ?_)
theorem rWhole_mono (k : Nat) : ∀ y0 y1, LeO (rWhole k y0 y1) (rWhole (k + 1) y0 y1) := by
 intro y0 y1; unfold rWhole; repeat' with_reducible first | exact (rExpr_mono _).2.2.2.2.2.2.2.1 _ _ _ | exact LeO.refl _ | refine LeO.bind ?_ (fun _ => ?_)
theorem rArgs_mono (k : Nat) : ∀ y0 y1 y2, LeO (rArgs k y0 y1 y2) (rArgs (k + 1) y0 y1 y2) := by
 induction k with
 | zero => intros; intro r h; simp [rArgs] at h
 | succ k ih =>
  intro y0 y1 y2; rw [rArgs, rArgs]; repeat' with_reducible first | exact ih _ _ _ | exact rWhole_mono _ _ _ | exact LeO.refl _ | refine LeO.ite ?_ ?_ | refine LeO.bind ?_ (fun _ => ?_)
theorem rCallO_mono (k : Nat) : ∀ y0 y1 y2 y3 y4, LeO (rCallO k y0 y1 y2 y3 y4) (rCallO (k + 1) y0 y1 y2 y3 y4) := by
 intro y0 y1 y2 y3 y4; unfold rCallO; repeat' with_reducible first | exact rWhole_mono _ _ _ | exact rArgs_mono _ _ _ _ | exact LeO.refl _ | refine LeO.bind ?_ (fun _ => ?_)
theorem rCall_mono (k : Nat) : ∀ y0 y1 y2 y3 y4, LeO (rCall k y0 y1 y2 y3 y4) (rCall (k + 1) y0 y1 y2 y3 y4) := by
 intro y0 y1 y2 y3 y4; unfold rCall; repeat' with_reducible first | exact rCallO_mono _ _ _ _ _ _ | exact LeO.refl _ | refine LeO.ite ?_ ?_
theorem rBrace_mono (k : Nat) : ∀ y0 y1 y2, LeO (rBrace k y0 y1 y2) (rBrace (k + 1) y0 y1 y2) := by
 intro y0 y1 y2; unfold rBrace; repeat' with_reducible first | exact rWhole_mono _ _ _ | exact LeO.refl _ | refine LeO.bind ?_ (fun _ => ?_)
theorem okT_mono {a b : Option (Int × Ps × List S98)} (h : LeO a b) : LeO (okT a) (okT b) := LeO.bind h (fun _ => LeO.refl _)
theorem rAlts_mono (k : Nat) : (∀ y0 y1 y2, LeO (rThing k y0 y1 y2) (rThing (k + 1) y0 y1 y2)) ∧ (∀ y0 y1 y2, LeO (rRow k y0 y1 y2) (rRow (k + 1) y0 y1 y2)) ∧ (∀ y0 y1 y2 y3, LeO (rRowL k y0 y1 y2 y3) (rRowL (k + 1) y0 y1 y2 y3)) ∧ (∀ y0 y1 y2, LeO (rAlts k y0 y1 y2) (rAlts (k + 1) y0 y1 y2)) ∧ (∀ y0 y1 y2 y3, LeO (rAltsL k y0 y1 y2 y3) (rAltsL (k + 1) y0 y1 y2 y3)) := by
 induction k with
 | zero =>
  refine ⟨?_, ?_, ?_, ?_, ?_⟩ <;> (intros; intro r h; simp [rThing, rRow, rRowL, rAlts, rAltsL] at h)
 | succ k ih =>
  obtain ⟨ih0, ih1, ih2, ih3, ih4⟩ := ih; refine ⟨?_, ?_, ?_, ?_, ?_⟩
  ·intro y0 y1 y2; rw [rThing, rThing]; repeat' with_reducible first | exact ih3 _ _ _ | exact rCall_mono _ _ _ _ _ _ | exact rBrace_mono _ _ _ _ | exact LeO.refl _ | refine okT_mono ?_ | refine LeO.ite ?_ ?_ | refine LeO.bind ?_ (fun _ => ?_)
  ·intro y0 y1 y2; rw [rRow, rRow]; repeat' (with_reducible exact ih2 _ _ _ _)
  ·intro y0 y1 y2 y3; rw [rRowL, rRowL]; repeat' with_reducible first | exact ih0 _ _ _ | exact ih2 _ _ _ _ | exact LeO.refl _ | refine LeO.ite ?_ ?_ | refine LeO.bind ?_ (fun _ => ?_)
  ·intro y0 y1 y2; rw [rAlts, rAlts]; repeat' with_reducible first | exact ih1 _ _ _ | exact ih4 _ _ _ _ | refine LeO.bind ?_ (fun _ => ?_)
  ·intro y0 y1 y2 y3; rw [rAltsL, rAltsL]; repeat' with_reducible first | exact ih1 _ _ _ | exact ih4 _ _ _ _ | exact LeO.refl _ | refine LeO.ite ?_ ?_ | refine LeO.bind ?_ (fun _ => ?_)
theorem rParams_mono (k : Nat) : ∀ y0 y1 y2 y3, LeO (rParams k y0 y1 y2 y3) (rParams (k + 1) y0 y1 y2 y3) := by
 induction k with
 | zero => intros; intro r h; simp [rParams] at h
 | succ k ih =>
  intro y0 y1 y2 y3; rw [rParams, rParams]; repeat' with_reducible first | exact ih _ _ _ _ | exact LeO.refl _ | refine LeO.ite ?_ ?_
theorem rHead_mono (k : Nat) : ∀ y0 y1 y2, LeO (rHead k y0 y1 y2) (rHead (k + 1) y0 y1 y2) := by
 intro y0 y1 y2; unfold rHead; repeat' with_reducible first | exact rParams_mono _ _ _ _ _ | exact LeO.refl _ | refine LeO.ite ?_ ?_ | refine LeO.bind ?_ (fun _ => ?_)
theorem rRules_mono (k : Nat) : ∀ y0 y1 y2 y3, LeO (rRules k y0 y1 y2 y3) (rRules (k + 1) y0 y1 y2 y3) := by
 induction k with
 | zero => intros; intro r h; simp [rRules] at h
 | succ k ih =>
  intro y0 y1 y2 y3; rw [rRules, rRules]; repeat' with_reducible first | exact ih _ _ _ _ | exact rHead_mono _ _ _ _ | exact (rAlts_mono _).2.2.2.1 _ _ _ | exact LeO.refl _ | refine LeO.ite ?_ ?_ | refine LeO.bind ?_ (fun _ => ?_)
theorem spec_ReadSurface.mono : ∀ a0 k, LeO (spec_ReadSurface.f k a0) (spec_ReadSurface.f (k + 1) a0) := by
 intro a0 k; unfold spec_ReadSurface.f; repeat' with_reducible first | exact spec_Tokens.mono _ _ | exact rRules_mono _ _ _ _ _ | exact spec_SurfaceOk.mono _ _ _ | exact LeO.refl _ | refine LeO.ite ?_ ?_ | refine LeO.bind ?_ (fun _ => ?_)
end Go.Proofs.Ythdoibaeamiepaa.PFnRuleNames
