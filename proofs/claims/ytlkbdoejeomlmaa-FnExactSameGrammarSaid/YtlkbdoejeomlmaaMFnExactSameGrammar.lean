/- The program's SameGrammar and the reference's come to the same on plain lists of at most 1048576 places each. -/
import Derived.Test.YtlkbdoejeomlmaaEFnExactSameGrammar
import Derived.Test.YtlkbdoejeomlmaaLp
namespace Go.Proofs.Ytlkbdoejeomlmaa.MFnExactSameGrammar
open Go.RowKit Go.Proofs.Ytlkbdoejeomlmaa.PFnExactSameGrammar Go.Proofs.Ytlkbdoejeomlmaa.EFnExactSameGrammar Go.Proofs.YtlkbdoejeomlmaaPl Go.Proofs.YtlkbdoejeomlmaaLp Go.Proofs.YtlkbdoejeomlmaaW.PrintWords Go.Proofs.YtlkbdoejeomlmaaW.PrintLast Go.Proofs.YtlkbdoejeomlmaaW.PrintMore
set_option linter.unusedVariables false

/-- Whether p stands, as a Bool. -/
noncomputable def dec (p : Prop) : Bool := @decide p (Classical.propDecidable p)
theorem dec_true {p : Prop} (h : p) : dec p = true := @decide_eq_true p (Classical.propDecidable p) h
theorem dec_false {p : Prop} (h : ¬ p) : dec p = false := @decide_eq_false p (Classical.propDecidable p) h
theorem dec_congr {p q : Prop} (h : p ↔ q) : dec p = dec q := by rw [propext h]

/-- Two lists of one length whose places meet P. -/
def L2 {α : Type} (P : α → α → Prop) (z : α) (l m : List α) : Prop := l.length = m.length ∧ ∀ i, i < l.length → P (l.getD i z) (m.getD i z)

theorem listEq {α : Type} (P : α → α → Prop) (z : α) (l m : List α) (g : Nat → Int → Option Bool) (hl : l.length ≤ 4611686018427387904) (hend : l.length = m.length → Ev (fun k => g k (l.length : Int)) true)
    (hyes : ∀ (i : Nat) (r : Bool), i < l.length → l.length = m.length → P (l.getD i z) (m.getD i z) → Ev (fun k => g k (wrap64 ((i : Int) + 1))) r → Ev (fun k => g k (i : Int)) r)
    (hno : ∀ i : Nat, i < l.length → l.length = m.length → ¬ P (l.getD i z) (m.getD i z) → Ev (fun k => g k (i : Int)) false) :
    Ev (fun k => if (l.length : Int) = (m.length : Int) then g k 0 else some false) (dec (L2 P z l m)) := by
  by_cases h : l.length = m.length
  · have h' : (l.length : Int) = (m.length : Int) := by omega
    simp only [if_pos h']
    have e := each g l.length (fun i => P (l.getD i z) (m.getD i z)) false hl (fun i hi hp => hno i hi h hp) (fun i r hi hp e => hyes i r hi h hp e)
    by_cases hp : ∀ i, i < l.length → P (l.getD i z) (m.getD i z)
    · rw [dec_true (show L2 P z l m from ⟨h, hp⟩)]
      exact e.1 true hp (hend h)
    · rw [dec_false (fun hq : L2 P z l m => hp hq.2)]
      exact e.2 hp
  · have h' : ¬ (l.length : Int) = (m.length : Int) := by omega
    simp only [if_neg h']
    rw [dec_false (fun hq : L2 P z l m => h hq.1)]
    exact Ev.now _

theorem rdInt (l : List Int) (i : Nat) : rd l (i : Int) = l.getD i 0 := by
  have h : (i : Int).toNat = i := by omega
  unfold rd
  rw [h]
theorem rdS (l : List ByteArray) (i : Nat) : rdOf ByteArray.empty l (i : Int) = l.getD i ByteArray.empty := by
  have h : (i : Int).toNat = i := by omega
  unfold rdOf
  rw [h]
theorem rd1 (l : List S32) (i : Nat) : rd_T32 l (i : Int) = l.getD i z32 := by
  have h : (i : Int).toNat = i := by omega
  unfold rd_T32
  rw [h]
theorem rd2 (l : List S26) (i : Nat) : rd_T26 l (i : Int) = l.getD i z26 := by
  have h : (i : Int).toNat = i := by omega
  unfold rd_T26
  rw [h]
theorem rd3 (l : List S167) (i : Nat) : rd_T167 l (i : Int) = l.getD i z167 := by
  have h : (i : Int).toNat = i := by omega
  unfold rd_T167
  rw [h]
theorem rd4 (l : List S165) (i : Nat) : rd_T165 l (i : Int) = l.getD i z165 := by
  have h : (i : Int).toNat = i := by omega
  unfold rd_T165
  rw [h]
theorem rd5 (l : List S162) (i : Nat) : rd_T162 l (i : Int) = l.getD i z162 := by
  have h : (i : Int).toNat = i := by omega
  unfold rd_T162
  rw [h]

/-! ### whole numbers, texts -/
def eqI : Int → Int → Prop := fun a b => a = b
def eqB : ByteArray → ByteArray → Prop := fun a b => a.toList = b.toList
theorem specInts (l m : List Int) (hl : l.length ≤ 1048576) : Ev (fun k => spec_l07SameInts.f k l m) (dec (L2 eqI 0 l m)) := by
  unfold spec_l07SameInts.f
  refine listEq eqI 0 l m (fun k j => spec_l07SameInts.l0 k l m j) (by omega) (fun h => Ev.done (fun k => ?_)) (fun i r hi h hp e => Ev.next e (fun k => ?_)) (fun i hi h hp => Ev.done (fun k => ?_))
  · simp only [spec_l07SameInts.l0]; rw [if_neg (by omega)]
  · simp only [spec_l07SameInts.l0]; rw [if_pos (by omega), if_pos (by omega), if_pos (by omega), rdInt, rdInt, if_pos (show _ = _ from hp)]
  · simp only [spec_l07SameInts.l0]; rw [if_pos (by omega), if_pos (by omega), if_pos (by omega), rdInt, rdInt, if_neg (show ¬ _ = _ from hp)]
theorem implInts (l m : List Int) (hl : l.length ≤ 1048576) : Ev (fun k => slices_Equal_int_int.f k l m) (dec (L2 eqI 0 l m)) := by
  unfold slices_Equal_int_int.f
  refine listEq eqI 0 l m (fun k j => slices_Equal_int_int.l0 k l m (l.length : Int) j) (by omega) (fun h => Ev.done (fun k => ?_)) (fun i r hi h hp e => Ev.next e (fun k => ?_)) (fun i hi h hp => Ev.done (fun k => ?_))
  · simp only [slices_Equal_int_int.l0]; rw [if_neg (by omega)]
  · simp only [slices_Equal_int_int.l0]; rw [if_pos (by omega), if_pos (by omega), if_pos (by omega), if_pos (by omega), rdInt, rdInt, if_pos (show _ = _ from hp)]
  · simp only [slices_Equal_int_int.l0]; rw [if_pos (by omega), if_pos (by omega), if_pos (by omega), if_pos (by omega), rdInt, rdInt, if_neg (show ¬ _ = _ from hp)]
theorem specTexts (l m : List ByteArray) (hl : l.length ≤ 1048576) : Ev (fun k => spec_l11SameTexts.f k l m) (dec (L2 eqB ByteArray.empty l m)) := by
  unfold spec_l11SameTexts.f
  refine listEq eqB ByteArray.empty l m (fun k j => spec_l11SameTexts.l0 k l m j) (by omega) (fun h => Ev.done (fun k => ?_)) (fun i r hi h hp e => Ev.next e (fun k => ?_)) (fun i hi h hp => Ev.done (fun k => ?_))
  · simp only [spec_l11SameTexts.l0]; rw [if_neg (by omega)]
  · simp only [spec_l11SameTexts.l0]; rw [if_pos (by omega), if_pos (by omega), if_pos (by omega), rdS, rdS, if_pos (show _ = _ from hp)]
  · simp only [spec_l11SameTexts.l0]; rw [if_pos (by omega), if_pos (by omega), if_pos (by omega), rdS, rdS, if_neg (show ¬ _ = _ from hp)]
theorem implTexts (l m : List ByteArray) (hl : l.length ≤ 1048576) : Ev (fun k => slices_Equal_string_string.f k l m) (dec (L2 eqB ByteArray.empty l m)) := by
  unfold slices_Equal_string_string.f
  refine listEq eqB ByteArray.empty l m (fun k j => slices_Equal_string_string.l0 k l m (l.length : Int) j) (by omega) (fun h => Ev.done (fun k => ?_)) (fun i r hi h hp e => Ev.next e (fun k => ?_)) (fun i hi h hp => Ev.done (fun k => ?_))
  · simp only [slices_Equal_string_string.l0]; rw [if_neg (by omega)]
  · simp only [slices_Equal_string_string.l0]; rw [if_pos (by omega), if_pos (by omega), if_pos (by omega), if_pos (by omega), rdS, rdS, if_pos (show _ = _ from hp)]
  · simp only [slices_Equal_string_string.l0]; rw [if_pos (by omega), if_pos (by omega), if_pos (by omega), if_pos (by omega), rdS, rdS, if_neg (show ¬ _ = _ from hp)]

/-! ### a node of an expression, an expression -/
def node (x y : S32) : Prop := x.f0 = y.f0 ∧ x.f1 = y.f1 ∧ x.f2.toList = y.f2.toList ∧ L2 eqI 0 x.f3 y.f3
def expr (x y : S26) : Prop := L2 node z32 x.f0 y.f0
def smN (x : S32) : Prop := x.f3.length ≤ 1048576
def smE (x : S26) : Prop := x.f0.length ≤ 1048576 ∧ ∀ y ∈ x.f0, smN y

theorem implNode (x y : S32) (hx : smN x) : Ev (fun k => impl_sameExpr_1.f k x.f0 x.f1 x.f2 x.f3 y.f0 y.f1 y.f2 y.f3) (dec (node x y)) := by
  unfold impl_sameExpr_1.f
  by_cases h0 : x.f0 = y.f0
  · by_cases h1 : x.f1 = y.f1
    · by_cases h2 : x.f2.toList = y.f2.toList
      · simp only [if_pos h0, if_pos h1, if_pos h2]
        refine Ev.bind (implInts _ _ hx) ?_
        rw [dec_congr (show L2 eqI 0 x.f3 y.f3 ↔ node x y from ⟨fun h => ⟨h0, h1, h2, h⟩, fun h => h.2.2.2⟩)]
        exact Ev.now _
      · simp only [if_pos h0, if_pos h1, if_neg h2]
        rw [dec_false (fun h : node x y => h2 h.2.2.1)]
        exact Ev.now _
    · simp only [if_pos h0, if_neg h1]
      rw [dec_false (fun h : node x y => h1 h.2.1)]
      exact Ev.now _
  · simp only [if_neg h0]
    rw [dec_false (fun h : node x y => h0 h.1)]
    exact Ev.now _

theorem implExpr (x y : S26) (hx : smE x) : Ev (fun k => impl_sameExpr.f k x.f0 y.f0) (dec (expr x y)) := by
  unfold impl_sameExpr.f impl_ExNode.f
  refine Ev.bind (a := dec (expr x y)) ?_ (Ev.now _)
  have h0 := hx.1
  refine listEq node z32 x.f0 y.f0 (fun k j => impl_ExNode.l0 k y.f0 x.f0 (x.f0.length : Int) j) (by omega) (fun h => Ev.done (fun k => ?_)) (fun i r hi h hp e => ?_) (fun i hi h hp => ?_)
  · simp only [impl_ExNode.l0]; rw [if_neg (by omega)]
  · refine Ev.step (fun k => by simp only [impl_ExNode.l0]; rw [if_pos (by omega), if_pos (by omega), if_pos (by omega), if_pos (by omega), rd1, rd1]) ?_
    refine Ev.bind (implNode _ _ (hx.2 _ (getD_mem _ z32 hi))) ?_
    rw [dec_true hp]
    exact Ev.same e (fun k => if_pos rfl)
  · refine Ev.step (fun k => by simp only [impl_ExNode.l0]; rw [if_pos (by omega), if_pos (by omega), if_pos (by omega), if_pos (by omega), rd1, rd1]) ?_
    refine Ev.bind (implNode _ _ (hx.2 _ (getD_mem _ z32 hi))) ?_
    rw [dec_false hp]
    exact Ev.just (fun k => if_neg Bool.false_ne_true)

theorem implExprs (l m : List S26) (hl : l.length ≤ 1048576) (hx : ∀ x ∈ l, smE x) : Ev (fun k => impl_Expr.f k l m 0) (dec (L2 expr z26 l m)) := by
  unfold impl_Expr.f
  refine listEq expr z26 l m (fun k j => impl_Expr.l0 k m l (l.length : Int) j) (by omega) (fun h => Ev.done (fun k => ?_)) (fun i r hi h hp e => ?_) (fun i hi h hp => ?_)
  · simp only [impl_Expr.l0]; rw [if_neg (by omega)]
  · refine Ev.step (fun k => by simp only [impl_Expr.l0]; rw [if_pos (by omega), if_pos (by omega), if_pos (by omega), if_pos (by omega), rd2, rd2]) ?_
    refine Ev.bind (implExpr _ _ (hx _ (getD_mem _ z26 hi))) ?_
    rw [dec_true hp]
    exact Ev.same e (fun k => if_pos rfl)
  · refine Ev.step (fun k => by simp only [impl_Expr.l0]; rw [if_pos (by omega), if_pos (by omega), if_pos (by omega), if_pos (by omega), rd2, rd2]) ?_
    refine Ev.bind (implExpr _ _ (hx _ (getD_mem _ z26 hi))) ?_
    rw [dec_false hp]
    exact Ev.just (fun k => if_neg Bool.false_ne_true)

theorem spec1 (l m : List S26) (i : Nat) (hi : i < l.length) (hm : l.length = m.length) (hl : l.length ≤ 1048576) (hx : smE (l.getD i z26)) (hlen : (l.getD i z26).f0.length = (m.getD i z26).f0.length) :
    (∀ r, expr (l.getD i z26) (m.getD i z26) → Ev (fun k => spec_l11SameExprs.l0 k l m (wrap64 ((i : Int) + 1))) r → Ev (fun k => spec_l11SameExprs.l1 k l m i 0) r) ∧ (¬ expr (l.getD i z26) (m.getD i z26) → Ev (fun k => spec_l11SameExprs.l1 k l m i 0) false) := by
  have h0 := hx.1
  have e := each (fun k j => spec_l11SameExprs.l1 k l m i j) (l.getD i z26).f0.length (fun j => node ((l.getD i z26).f0.getD j z32) ((m.getD i z26).f0.getD j z32)) false (by omega)
    (fun j hj hp => by
      have start : ∀ r, Ev (fun k => if ((l.getD i z26).f0.getD j z32).f0 = ((m.getD i z26).f0.getD j z32).f0 then (if ((l.getD i z26).f0.getD j z32).f1 = ((m.getD i z26).f0.getD j z32).f1 then (if ((l.getD i z26).f0.getD j z32).f2.toList = ((m.getD i z26).f0.getD j z32).f2.toList then ((spec_l07SameInts.f k ((l.getD i z26).f0.getD j z32).f3 ((m.getD i z26).f0.getD j z32).f3).bind fun t => (if t = true then (spec_l11SameExprs.l1 k l m i (wrap64 ((j : Int) + 1))) else (some false))) else (some false)) else (some false)) else (some false)) r → Ev (fun k => spec_l11SameExprs.l1 k l m i j) r := by
        intro r e
        refine Ev.step (fun k => ?_) e
        simp only [spec_l11SameExprs.l1]
        rw [if_pos (by omega), if_pos (by omega), rd2, if_pos (by omega), if_pos (by omega), if_pos (by omega), rd2, if_pos (by omega), rd1, rd1]
      refine start false ?_
      by_cases a0 : ((l.getD i z26).f0.getD j z32).f0 = ((m.getD i z26).f0.getD j z32).f0
      · by_cases a1 : ((l.getD i z26).f0.getD j z32).f1 = ((m.getD i z26).f0.getD j z32).f1
        · by_cases a2 : ((l.getD i z26).f0.getD j z32).f2.toList = ((m.getD i z26).f0.getD j z32).f2.toList
          · simp only [if_pos a0, if_pos a1, if_pos a2]
            refine Ev.bind (specInts _ _ (hx.2 _ (getD_mem _ z32 hj))) ?_
            rw [dec_false (fun h => hp ⟨a0, a1, a2, h⟩)]
            exact Ev.just (fun k => if_neg Bool.false_ne_true)
          · simp only [if_pos a0, if_pos a1, if_neg a2]; exact Ev.now _
        · simp only [if_pos a0, if_neg a1]; exact Ev.now _
      · simp only [if_neg a0]; exact Ev.now _)
    (fun j r hj hp e => by
      obtain ⟨a0, a1, a2, a3⟩ := hp
      refine Ev.step (fun k => by
        simp only [spec_l11SameExprs.l1]
        rw [if_pos (by omega), if_pos (by omega), rd2, if_pos (by omega), if_pos (by omega), if_pos (by omega), rd2, if_pos (by omega), rd1, rd1, if_pos a0, if_pos a1, if_pos a2]) ?_
      refine Ev.bind (specInts _ _ (hx.2 _ (getD_mem _ z32 hj))) ?_
      rw [dec_true a3]
      exact Ev.same e (fun k => if_pos rfl))
  refine ⟨fun r hp e2 => e.1 r hp.2 (Ev.next e2 (fun k => ?_)), fun hp => e.2 (fun h => hp ⟨hlen, h⟩)⟩
  simp only [spec_l11SameExprs.l1]
  rw [if_pos (by omega), if_pos (by omega), rd2, if_neg (by omega)]

theorem specExprs (l m : List S26) (hl : l.length ≤ 1048576) (hx : ∀ x ∈ l, smE x) : Ev (fun k => spec_l11SameExprs.f k l m) (dec (L2 expr z26 l m)) := by
  unfold spec_l11SameExprs.f
  refine listEq expr z26 l m (fun k j => spec_l11SameExprs.l0 k l m j) (by omega) (fun h => Ev.done (fun k => ?_)) (fun i r hi h hp e => ?_) (fun i hi h hp => ?_)
  · simp only [spec_l11SameExprs.l0]; rw [if_neg (by omega)]
  · refine Ev.next ((spec1 l m i hi h hl (hx _ (getD_mem _ z26 hi)) hp.1).1 r hp e) (fun k => ?_)
    have := hp.1
    simp only [spec_l11SameExprs.l0]; rw [if_pos (by omega), if_pos (by omega), if_pos (by omega), rd2, rd2, if_pos (by omega)]
  · by_cases hlen : (l.getD i z26).f0.length = (m.getD i z26).f0.length
    · refine Ev.next ((spec1 l m i hi h hl (hx _ (getD_mem _ z26 hi)) hlen).2 hp) (fun k => ?_)
      simp only [spec_l11SameExprs.l0]; rw [if_pos (by omega), if_pos (by omega), if_pos (by omega), rd2, rd2, if_pos (by omega)]
    · refine Ev.done (fun k => ?_)
      simp only [spec_l11SameExprs.l0]; rw [if_pos (by omega), if_pos (by omega), if_pos (by omega), rd2, rd2, if_neg (by omega)]

/-! ### a symbol, an alternative, a rule -/
def sym (x y : S167) : Prop := x.f0 = y.f0 ∧ x.f1.toList = y.f1.toList ∧ L2 expr z26 x.f2 y.f2 ∧ x.f3.toList = y.f3.toList
def alt (x y : S165) : Prop := L2 sym z167 x.f0 y.f0
def rule (x y : S162) : Prop := x.f0.toList = y.f0.toList ∧ L2 eqB ByteArray.empty x.f1 y.f1 ∧ L2 alt z165 x.f2 y.f2
def smS (x : S167) : Prop := x.f2.length ≤ 1048576 ∧ ∀ y ∈ x.f2, smE y
def smA (x : S165) : Prop := x.f0.length ≤ 1048576 ∧ ∀ y ∈ x.f0, smS y
def smR (x : S162) : Prop := x.f1.length ≤ 1048576 ∧ (x.f2.length ≤ 1048576 ∧ ∀ y ∈ x.f2, smA y)

theorem implSym (x y : S167) (hx : smS x) : Ev (fun k => impl_sameSym.f k x.f0 x.f1 x.f2 x.f3 y.f0 y.f1 y.f2 y.f3) (dec (sym x y)) := by
  unfold impl_sameSym.f
  by_cases h0 : x.f0 = y.f0
  · by_cases h1 : x.f1.toList = y.f1.toList
    · by_cases h3 : x.f3.toList = y.f3.toList
      · simp only [if_pos h0, if_pos h1, if_pos h3]
        refine Ev.bind (implExprs _ _ hx.1 hx.2) ?_
        rw [dec_congr (show L2 expr z26 x.f2 y.f2 ↔ sym x y from ⟨fun h => ⟨h0, h1, h, h3⟩, fun h => h.2.2.1⟩)]
        exact Ev.now _
      · simp only [if_pos h0, if_pos h1, if_neg h3]
        rw [dec_false (fun h : sym x y => h3 h.2.2.2)]
        exact Ev.now _
    · simp only [if_pos h0, if_neg h1]
      rw [dec_false (fun h : sym x y => h1 h.2.1)]
      exact Ev.now _
  · simp only [if_neg h0]
    rw [dec_false (fun h : sym x y => h0 h.1)]
    exact Ev.now _
theorem implSyms (l m : List S167) (hl : l.length ≤ 1048576) (hx : ∀ x ∈ l, smS x) : Ev (fun k => impl_Sym.f k l m 0) (dec (L2 sym z167 l m)) := by
  unfold impl_Sym.f
  refine listEq sym z167 l m (fun k j => impl_Sym.l0 k m l (l.length : Int) j) (by omega) (fun h => Ev.done (fun k => ?_)) (fun i r hi h hp e => ?_) (fun i hi h hp => ?_)
  · simp only [impl_Sym.l0]; rw [if_neg (by omega)]
  · refine Ev.step (fun k => by simp only [impl_Sym.l0]; rw [if_pos (by omega), if_pos (by omega), if_pos (by omega), if_pos (by omega), rd3, rd3]) ?_
    refine Ev.bind (implSym _ _ (hx _ (getD_mem _ z167 hi))) ?_
    rw [dec_true hp]
    exact Ev.same e (fun k => if_pos rfl)
  · refine Ev.step (fun k => by simp only [impl_Sym.l0]; rw [if_pos (by omega), if_pos (by omega), if_pos (by omega), if_pos (by omega), rd3, rd3]) ?_
    refine Ev.bind (implSym _ _ (hx _ (getD_mem _ z167 hi))) ?_
    rw [dec_false hp]
    exact Ev.just (fun k => if_neg Bool.false_ne_true)
theorem implAlt (x y : S165) (hx : smA x) : Ev (fun k => impl_sameAlt.f k x.f0 y.f0) (dec (alt x y)) := by
  unfold impl_sameAlt.f
  exact Ev.bind (implSyms _ _ hx.1 hx.2) (Ev.now _)
theorem implAlts (l m : List S165) (hl : l.length ≤ 1048576) (hx : ∀ x ∈ l, smA x) : Ev (fun k => impl_Alt.f k l m 0) (dec (L2 alt z165 l m)) := by
  unfold impl_Alt.f
  refine listEq alt z165 l m (fun k j => impl_Alt.l0 k m l (l.length : Int) j) (by omega) (fun h => Ev.done (fun k => ?_)) (fun i r hi h hp e => ?_) (fun i hi h hp => ?_)
  · simp only [impl_Alt.l0]; rw [if_neg (by omega)]
  · refine Ev.step (fun k => by simp only [impl_Alt.l0]; rw [if_pos (by omega), if_pos (by omega), if_pos (by omega), if_pos (by omega), rd4, rd4]) ?_
    refine Ev.bind (implAlt _ _ (hx _ (getD_mem _ z165 hi))) ?_
    rw [dec_true hp]
    exact Ev.same e (fun k => if_pos rfl)
  · refine Ev.step (fun k => by simp only [impl_Alt.l0]; rw [if_pos (by omega), if_pos (by omega), if_pos (by omega), if_pos (by omega), rd4, rd4]) ?_
    refine Ev.bind (implAlt _ _ (hx _ (getD_mem _ z165 hi))) ?_
    rw [dec_false hp]
    exact Ev.just (fun k => if_neg Bool.false_ne_true)
theorem implRule (x y : S162) (hx : smR x) : Ev (fun k => impl_SameGrammar_1.f k x.f0 x.f1 x.f2 y.f0 y.f1 y.f2) (dec (rule x y)) := by
  unfold impl_SameGrammar_1.f
  by_cases h0 : x.f0.toList = y.f0.toList
  · simp only [if_pos h0]
    refine Ev.bind (implTexts _ _ hx.1) ?_
    by_cases h1 : L2 eqB ByteArray.empty x.f1 y.f1
    · rw [dec_true h1]
      simp only [if_true]
      refine Ev.bind (implAlts _ _ hx.2.1 hx.2.2) ?_
      rw [dec_congr (show L2 alt z165 x.f2 y.f2 ↔ rule x y from ⟨fun h => ⟨h0, h1, h⟩, fun h => h.2.2⟩)]
      exact Ev.now _
    · rw [dec_false h1, dec_false (fun h : rule x y => h1 h.2.1)]
      exact Ev.just (fun k => if_neg Bool.false_ne_true)
  · simp only [if_neg h0]
    rw [dec_false (fun h : rule x y => h0 h.1)]
    exact Ev.now _
theorem implRules (l m : List S162) (hl : l.length ≤ 1048576) (hx : ∀ x ∈ l, smR x) : Ev (fun k => impl_Rule.f k l m 0) (dec (L2 rule z162 l m)) := by
  unfold impl_Rule.f
  refine listEq rule z162 l m (fun k j => impl_Rule.l0 k m l (l.length : Int) j) (by omega) (fun h => Ev.done (fun k => ?_)) (fun i r hi h hp e => ?_) (fun i hi h hp => ?_)
  · simp only [impl_Rule.l0]; rw [if_neg (by omega)]
  · refine Ev.step (fun k => by simp only [impl_Rule.l0]; rw [if_pos (by omega), if_pos (by omega), if_pos (by omega), if_pos (by omega), rd5, rd5]) ?_
    refine Ev.bind (implRule _ _ (hx _ (getD_mem _ z162 hi))) ?_
    rw [dec_true hp]
    exact Ev.same e (fun k => if_pos rfl)
  · refine Ev.step (fun k => by simp only [impl_Rule.l0]; rw [if_pos (by omega), if_pos (by omega), if_pos (by omega), if_pos (by omega), rd5, rd5]) ?_
    refine Ev.bind (implRule _ _ (hx _ (getD_mem _ z162 hi))) ?_
    rw [dec_false hp]
    exact Ev.just (fun k => if_neg Bool.false_ne_true)

/-- All is small. -/
def small (l : List S162) : Prop := l.length ≤ 1048576 ∧ ∀ x ∈ l, smR x

theorem implSame (a b : List S162) (hs : small a) : Ev (fun k => impl_SameGrammar.f k a b) (dec (L2 rule z162 a b)) := by
  unfold impl_SameGrammar.f
  exact Ev.bind (implRules a b hs.1 hs.2) (Ev.now _)

theorem specSyms (a b : List S162) (x y : S162) (i j : Nat) (hj : j < x.f2.length) (hm : x.f2.length = y.f2.length) (hl : x.f2.length ≤ 1048576) (hx : smA (x.f2.getD j z165)) (hlen : (x.f2.getD j z165).f0.length = (y.f2.getD j z165).f0.length) :
    (∀ r, alt (x.f2.getD j z165) (y.f2.getD j z165) → Ev (fun k => spec_SameGrammar.l1 k i (wrap64 ((j : Int) + 1)) a b x.f0 x.f1 x.f2 y.f0 y.f1 y.f2) r → Ev (fun k => spec_SameGrammar.l2 k i j 0 a b x.f0 x.f1 x.f2 y.f0 y.f1 y.f2) r) ∧ (¬ alt (x.f2.getD j z165) (y.f2.getD j z165) → Ev (fun k => spec_SameGrammar.l2 k i j 0 a b x.f0 x.f1 x.f2 y.f0 y.f1 y.f2) false) := by
  have h0 := hx.1
  have e := each (fun k t => spec_SameGrammar.l2 k i j t a b x.f0 x.f1 x.f2 y.f0 y.f1 y.f2) (x.f2.getD j z165).f0.length (fun t => sym ((x.f2.getD j z165).f0.getD t z167) ((y.f2.getD j z165).f0.getD t z167)) false (by omega)
    (fun t ht hp => by
      have start : ∀ r, Ev (fun k => if ((x.f2.getD j z165).f0.getD t z167).f0 = ((y.f2.getD j z165).f0.getD t z167).f0 then (if ((x.f2.getD j z165).f0.getD t z167).f1.toList = ((y.f2.getD j z165).f0.getD t z167).f1.toList then (if ((x.f2.getD j z165).f0.getD t z167).f3.toList = ((y.f2.getD j z165).f0.getD t z167).f3.toList then ((spec_l11SameExprs.f k ((x.f2.getD j z165).f0.getD t z167).f2 ((y.f2.getD j z165).f0.getD t z167).f2).bind fun q => (if q = true then (spec_SameGrammar.l2 k i j (wrap64 ((t : Int) + 1)) a b x.f0 x.f1 x.f2 y.f0 y.f1 y.f2) else (some false))) else (some false)) else (some false)) else (some false)) r → Ev (fun k => spec_SameGrammar.l2 k i j t a b x.f0 x.f1 x.f2 y.f0 y.f1 y.f2) r := by
        intro r e
        refine Ev.step (fun k => ?_) e
        simp only [spec_SameGrammar.l2]
        rw [if_pos (by omega), if_pos (by omega), rd4, if_pos (by omega), if_pos (by omega), if_pos (by omega), rd4, if_pos (by omega), rd3, rd3]
      refine start false ?_
      by_cases a0 : ((x.f2.getD j z165).f0.getD t z167).f0 = ((y.f2.getD j z165).f0.getD t z167).f0
      · by_cases a1 : ((x.f2.getD j z165).f0.getD t z167).f1.toList = ((y.f2.getD j z165).f0.getD t z167).f1.toList
        · by_cases a3 : ((x.f2.getD j z165).f0.getD t z167).f3.toList = ((y.f2.getD j z165).f0.getD t z167).f3.toList
          · simp only [if_pos a0, if_pos a1, if_pos a3]
            have hy := hx.2 _ (getD_mem _ z167 ht)
            refine Ev.bind (specExprs _ _ hy.1 hy.2) ?_
            rw [dec_false (fun h => hp ⟨a0, a1, h, a3⟩)]
            exact Ev.just (fun k => if_neg Bool.false_ne_true)
          · simp only [if_pos a0, if_pos a1, if_neg a3]; exact Ev.now _
        · simp only [if_pos a0, if_neg a1]; exact Ev.now _
      · simp only [if_neg a0]; exact Ev.now _)
    (fun t r ht hp e => by
      obtain ⟨a0, a1, a2, a3⟩ := hp
      have hy := hx.2 _ (getD_mem _ z167 ht)
      refine Ev.step (fun k => by
        simp only [spec_SameGrammar.l2]
        rw [if_pos (by omega), if_pos (by omega), rd4, if_pos (by omega), if_pos (by omega), if_pos (by omega), rd4, if_pos (by omega), rd3, rd3, if_pos a0, if_pos a1, if_pos a3]) ?_
      refine Ev.bind (specExprs _ _ hy.1 hy.2) ?_
      rw [dec_true a2]
      exact Ev.same e (fun k => if_pos rfl))
  refine ⟨fun r hp e2 => e.1 r hp.2 (Ev.next e2 (fun k => ?_)), fun hp => e.2 (fun h => hp ⟨hlen, h⟩)⟩
  simp only [spec_SameGrammar.l2]
  rw [if_pos (by omega), if_pos (by omega), rd4, if_neg (by omega)]

theorem specAlts (a b : List S162) (x y : S162) (i : Nat) (hm : x.f2.length = y.f2.length) (hx : smR x) :
    (∀ r, (∀ j, j < x.f2.length → alt (x.f2.getD j z165) (y.f2.getD j z165)) → Ev (fun k => spec_SameGrammar.l0 k (wrap64 ((i : Int) + 1)) a b) r → Ev (fun k => spec_SameGrammar.l1 k i 0 a b x.f0 x.f1 x.f2 y.f0 y.f1 y.f2) r) ∧ ((¬ ∀ j, j < x.f2.length → alt (x.f2.getD j z165) (y.f2.getD j z165)) → Ev (fun k => spec_SameGrammar.l1 k i 0 a b x.f0 x.f1 x.f2 y.f0 y.f1 y.f2) false) := by
  have hl := hx.2.1
  have e := each (fun k j => spec_SameGrammar.l1 k i j a b x.f0 x.f1 x.f2 y.f0 y.f1 y.f2) x.f2.length (fun j => alt (x.f2.getD j z165) (y.f2.getD j z165)) false (by omega)
    (fun j hj hp => by
      have hA := hx.2.2 _ (getD_mem _ z165 hj)
      by_cases hlen : (x.f2.getD j z165).f0.length = (y.f2.getD j z165).f0.length
      · refine Ev.next ((specSyms a b x y i j hj hm hl hA hlen).2 hp) (fun k => ?_)
        simp only [spec_SameGrammar.l1]; rw [if_pos (by omega), if_pos (by omega), if_pos (by omega), rd4, rd4, if_pos (by omega)]
      · refine Ev.done (fun k => ?_)
        simp only [spec_SameGrammar.l1]; rw [if_pos (by omega), if_pos (by omega), if_pos (by omega), rd4, rd4, if_neg (by omega)])
    (fun j r hj hp e => by
      have hA := hx.2.2 _ (getD_mem _ z165 hj)
      have hlen := hp.1
      refine Ev.next ((specSyms a b x y i j hj hm hl hA hlen).1 r hp e) (fun k => ?_)
      simp only [spec_SameGrammar.l1]; rw [if_pos (by omega), if_pos (by omega), if_pos (by omega), rd4, rd4, if_pos (by omega)])
  refine ⟨fun r hp e2 => e.1 r hp (Ev.next e2 (fun k => ?_)), fun hp => e.2 hp⟩
  simp only [spec_SameGrammar.l1]
  rw [if_neg (by omega)]

theorem specSame (a b : List S162) (hs : small a) : Ev (fun k => spec_SameGrammar.f k a b) (dec (L2 rule z162 a b)) := by
  unfold spec_SameGrammar.f
  have hl := hs.1
  have bad : ∀ (i : Nat) (x y : S162), Ev (fun k => spec_SameGrammar.j1 k i true a b x.f0 x.f1 x.f2 y.f0 y.f1 y.f2) false := fun i x y => Ev.done (fun k => by simp only [spec_SameGrammar.j1]; exact if_pos trivial)
  have start : ∀ (i : Nat) (r : Bool), i < a.length → a.length = b.length → Ev (fun k => if (a.getD i z162).f0.toList = (b.getD i z162).f0.toList then ((spec_l11SameTexts.f k (a.getD i z162).f1 (b.getD i z162).f1).bind fun t => (if t = true then (spec_SameGrammar.j1 k i (((a.getD i z162).f2.length : Int) != ((b.getD i z162).f2.length : Int)) a b (a.getD i z162).f0 (a.getD i z162).f1 (a.getD i z162).f2 (b.getD i z162).f0 (b.getD i z162).f1 (b.getD i z162).f2) else (spec_SameGrammar.j1 k i true a b (a.getD i z162).f0 (a.getD i z162).f1 (a.getD i z162).f2 (b.getD i z162).f0 (b.getD i z162).f1 (b.getD i z162).f2))) else (spec_SameGrammar.j1 k i true a b (a.getD i z162).f0 (a.getD i z162).f1 (a.getD i z162).f2 (b.getD i z162).f0 (b.getD i z162).f1 (b.getD i z162).f2)) r → Ev (fun k => spec_SameGrammar.l0 k i a b) r := by
    intro i r hi h e
    refine Ev.step (fun k => ?_) e
    simp only [spec_SameGrammar.l0]
    rw [if_pos (by omega), if_pos (by omega), if_pos (by omega), rd5, rd5]
  refine listEq rule z162 a b (fun k j => spec_SameGrammar.l0 k j a b) (by omega) (fun h => Ev.done (fun k => ?_)) (fun i r hi h hp e => ?_) (fun i hi h hp => ?_)
  · simp only [spec_SameGrammar.l0]; rw [if_neg (by omega)]
  · have hx := hs.2 _ (getD_mem a z162 hi)
    obtain ⟨a0, a1, a2⟩ := hp
    refine start i r hi h ?_
    simp only [if_pos a0]
    refine Ev.bind (specTexts _ _ hx.1) ?_
    rw [dec_true a1]
    simp only [if_true]
    have h2' : (((a.getD i z162).f2.length : Int) != ((b.getD i z162).f2.length : Int)) = false := by rw [a2.1, bne_self_eq_false]
    rw [h2']
    refine Ev.next ((specAlts a b _ _ i a2.1 hx).1 r a2.2 e) (fun k => ?_)
    simp only [spec_SameGrammar.j1]
    exact if_neg Bool.false_ne_true
  · have hx := hs.2 _ (getD_mem a z162 hi)
    refine start i false hi h ?_
    by_cases a0 : (a.getD i z162).f0.toList = (b.getD i z162).f0.toList
    · simp only [if_pos a0]
      refine Ev.bind (specTexts _ _ hx.1) ?_
      by_cases a1 : L2 eqB ByteArray.empty (a.getD i z162).f1 (b.getD i z162).f1
      · rw [dec_true a1]
        simp only [if_true]
        by_cases hlen : (a.getD i z162).f2.length = (b.getD i z162).f2.length
        · have h2' : (((a.getD i z162).f2.length : Int) != ((b.getD i z162).f2.length : Int)) = false := by rw [hlen, bne_self_eq_false]
          rw [h2']
          refine Ev.next ((specAlts a b _ _ i hlen hx).2 (fun q => hp ⟨a0, a1, hlen, q⟩)) (fun k => ?_)
          simp only [spec_SameGrammar.j1]
          exact if_neg Bool.false_ne_true
        · have h2' : (((a.getD i z162).f2.length : Int) != ((b.getD i z162).f2.length : Int)) = true := bne_iff_ne.2 (by omega)
          rw [h2']
          exact bad i _ _
      · rw [dec_false a1]
        refine Ev.same (bad i (a.getD i z162) (b.getD i z162)) (fun k => ?_)
        exact if_neg Bool.false_ne_true
    · simp only [if_neg a0]
      exact bad i _ _
end Go.Proofs.Ytlkbdoejeomlmaa.MFnExactSameGrammar
