/- The program's SameSurface and the reference's come to the same on plain lists of at most 1048576 places each. -/
import Derived.Test.YtlkbdoejeomlmaaEFnExactSameSurface
import Derived.Test.YtlkbdoejeomlmaaLp
namespace Go.Proofs.Ytlkbdoejeomlmaa.MFnExactSameSurface
open Go.RowKit Go.Proofs.Ytlkbdoejeomlmaa.PFnExactSameSurface Go.Proofs.Ytlkbdoejeomlmaa.EFnExactSameSurface Go.Proofs.YtlkbdoejeomlmaaPl Go.Proofs.YtlkbdoejeomlmaaLp Go.Proofs.YtlkbdoejeomlmaaW.PrintWords Go.Proofs.YtlkbdoejeomlmaaW.PrintLast Go.Proofs.YtlkbdoejeomlmaaW.PrintMore
set_option linter.unusedVariables false

/-- Whether p stands, as a Bool. -/
noncomputable def dec (p : Prop) : Bool := @decide p (Classical.propDecidable p)
theorem dec_true {p : Prop} (h : p) : dec p = true := @decide_eq_true p (Classical.propDecidable p) h
theorem dec_false {p : Prop} (h : ¬ p) : dec p = false := @decide_eq_false p (Classical.propDecidable p) h
theorem dec_congr {p q : Prop} (h : p ↔ q) : dec p = dec q := by rw [propext h]

/-- Two lists of one length whose places meet P. -/
def L2 {α : Type} (P : α → α → Prop) (z : α) (l m : List α) : Prop := l.length = m.length ∧ ∀ i, i < l.length → P (l.getD i z) (m.getD i z)

theorem listEq {α : Type} (P : α → α → Prop) (z : α) (l m : List α) (g : Nat → Int → Option Bool) (hl : l.length ≤ 4611686018427387904) (hend : l.length = m.length → Ev (fun k => g k (l.length : Int)) true)
    (hyes : ∀ (i : Nat) (r : Bool), i < l.length → l.length = m.length → P (l.getD i z) (m.getD i z) → Ev (fun k => g k (wrap64 ((i : Int) + 1))) r → Ev (fun k => g k (i : Int)) r)
    (hno : ∀ i : Nat, i < l.length → l.length = m.length → ¬ P (l.getD i z) (m.getD i z) → Ev (fun k => g k (i : Int)) false) :
    Ev (fun k => if (l.length : Int) = (m.length : Int) then g k 0 else some false) (dec (L2 P z l m)) := by
  by_cases h : l.length = m.length
  · have h' : (l.length : Int) = (m.length : Int) := by omega
    simp only [if_pos h']
    have e := each g l.length (fun i => P (l.getD i z) (m.getD i z)) false hl (fun i hi hp => hno i hi h hp) (fun i r hi hp e => hyes i r hi h hp e)
    by_cases hp : ∀ i, i < l.length → P (l.getD i z) (m.getD i z)
    · rw [dec_true (show L2 P z l m from ⟨h, hp⟩)]
      exact e.1 true hp (hend h)
    · rw [dec_false (fun hq : L2 P z l m => hp hq.2)]
      exact e.2 hp
  · have h' : ¬ (l.length : Int) = (m.length : Int) := by omega
    simp only [if_neg h']
    rw [dec_false (fun hq : L2 P z l m => h hq.1)]
    exact Ev.now _

theorem rdInt (l : List Int) (i : Nat) : rd l (i : Int) = l.getD i 0 := by
  have h : (i : Int).toNat = i := by omega
  unfold rd
  rw [h]
theorem rdS (l : List ByteArray) (i : Nat) : rdOf ByteArray.empty l (i : Int) = l.getD i ByteArray.empty := by
  have h : (i : Int).toNat = i := by omega
  unfold rdOf
  rw [h]
theorem rd1 (l : List S32) (i : Nat) : rd_T32 l (i : Int) = l.getD i z32 := by
  have h : (i : Int).toNat = i := by omega
  unfold rd_T32
  rw [h]
theorem rd2 (l : List S26) (i : Nat) : rd_T26 l (i : Int) = l.getD i z26 := by
  have h : (i : Int).toNat = i := by omega
  unfold rd_T26
  rw [h]
theorem rd3 (l : List S144) (i : Nat) : rd_T144 l (i : Int) = l.getD i z144 := by
  have h : (i : Int).toNat = i := by omega
  unfold rd_T144
  rw [h]
theorem rd4 (l : List S148) (i : Nat) : rd_T148 l (i : Int) = l.getD i z148 := by
  have h : (i : Int).toNat = i := by omega
  unfold rd_T148
  rw [h]

/-! ### whole numbers, texts -/
def eqI : Int → Int → Prop := fun a b => a = b
def eqB : ByteArray → ByteArray → Prop := fun a b => a.toList = b.toList
theorem specInts (l m : List Int) (hl : l.length ≤ 1048576) : Ev (fun k => spec_l07SameInts.f k l m) (dec (L2 eqI 0 l m)) := by
  unfold spec_l07SameInts.f
  refine listEq eqI 0 l m (fun k j => spec_l07SameInts.l0 k l m j) (by omega) (fun h => Ev.done (fun k => ?_)) (fun i r hi h hp e => Ev.next e (fun k => ?_)) (fun i hi h hp => Ev.done (fun k => ?_))
  · simp only [spec_l07SameInts.l0]; rw [if_neg (by omega)]
  · simp only [spec_l07SameInts.l0]; rw [if_pos (by omega), if_pos (by omega), if_pos (by omega), rdInt, rdInt, if_pos (show _ = _ from hp)]
  · simp only [spec_l07SameInts.l0]; rw [if_pos (by omega), if_pos (by omega), if_pos (by omega), rdInt, rdInt, if_neg (show ¬ _ = _ from hp)]
theorem implInts (l m : List Int) (hl : l.length ≤ 1048576) : Ev (fun k => slices_Equal_int_int.f k l m) (dec (L2 eqI 0 l m)) := by
  unfold slices_Equal_int_int.f
  refine listEq eqI 0 l m (fun k j => slices_Equal_int_int.l0 k l m (l.length : Int) j) (by omega) (fun h => Ev.done (fun k => ?_)) (fun i r hi h hp e => Ev.next e (fun k => ?_)) (fun i hi h hp => Ev.done (fun k => ?_))
  · simp only [slices_Equal_int_int.l0]; rw [if_neg (by omega)]
  · simp only [slices_Equal_int_int.l0]; rw [if_pos (by omega), if_pos (by omega), if_pos (by omega), if_pos (by omega), rdInt, rdInt, if_pos (show _ = _ from hp)]
  · simp only [slices_Equal_int_int.l0]; rw [if_pos (by omega), if_pos (by omega), if_pos (by omega), if_pos (by omega), rdInt, rdInt, if_neg (show ¬ _ = _ from hp)]
theorem specTexts (l m : List ByteArray) (hl : l.length ≤ 1048576) : Ev (fun k => spec_l11SameTexts.f k l m) (dec (L2 eqB ByteArray.empty l m)) := by
  unfold spec_l11SameTexts.f
  refine listEq eqB ByteArray.empty l m (fun k j => spec_l11SameTexts.l0 k l m j) (by omega) (fun h => Ev.done (fun k => ?_)) (fun i r hi h hp e => Ev.next e (fun k => ?_)) (fun i hi h hp => Ev.done (fun k => ?_))
  · simp only [spec_l11SameTexts.l0]; rw [if_neg (by omega)]
  · simp only [spec_l11SameTexts.l0]; rw [if_pos (by omega), if_pos (by omega), if_pos (by omega), rdS, rdS, if_pos (show _ = _ from hp)]
  · simp only [spec_l11SameTexts.l0]; rw [if_pos (by omega), if_pos (by omega), if_pos (by omega), rdS, rdS, if_neg (show ¬ _ = _ from hp)]
theorem implTexts (l m : List ByteArray) (hl : l.length ≤ 1048576) : Ev (fun k => slices_Equal_string_string.f k l m) (dec (L2 eqB ByteArray.empty l m)) := by
  unfold slices_Equal_string_string.f
  refine listEq eqB ByteArray.empty l m (fun k j => slices_Equal_string_string.l0 k l m (l.length : Int) j) (by omega) (fun h => Ev.done (fun k => ?_)) (fun i r hi h hp e => Ev.next e (fun k => ?_)) (fun i hi h hp => Ev.done (fun k => ?_))
  · simp only [slices_Equal_string_string.l0]; rw [if_neg (by omega)]
  · simp only [slices_Equal_string_string.l0]; rw [if_pos (by omega), if_pos (by omega), if_pos (by omega), if_pos (by omega), rdS, rdS, if_pos (show _ = _ from hp)]
  · simp only [slices_Equal_string_string.l0]; rw [if_pos (by omega), if_pos (by omega), if_pos (by omega), if_pos (by omega), rdS, rdS, if_neg (show ¬ _ = _ from hp)]

/-! ### a node of an expression, an expression -/
def node (x y : S32) : Prop := x.f0 = y.f0 ∧ x.f1 = y.f1 ∧ x.f2.toList = y.f2.toList ∧ L2 eqI 0 x.f3 y.f3
def expr (x y : S26) : Prop := L2 node z32 x.f0 y.f0
def smN (x : S32) : Prop := x.f3.length ≤ 1048576
def smE (x : S26) : Prop := x.f0.length ≤ 1048576 ∧ ∀ y ∈ x.f0, smN y

theorem implNode (x y : S32) (hx : smN x) : Ev (fun k => impl_sameExpr_1.f k x.f0 x.f1 x.f2 x.f3 y.f0 y.f1 y.f2 y.f3) (dec (node x y)) := by
  unfold impl_sameExpr_1.f
  by_cases h0 : x.f0 = y.f0
  · by_cases h1 : x.f1 = y.f1
    · by_cases h2 : x.f2.toList = y.f2.toList
      · simp only [if_pos h0, if_pos h1, if_pos h2]
        refine Ev.bind (implInts _ _ hx) ?_
        rw [dec_congr (show L2 eqI 0 x.f3 y.f3 ↔ node x y from ⟨fun h => ⟨h0, h1, h2, h⟩, fun h => h.2.2.2⟩)]
        exact Ev.now _
      · simp only [if_pos h0, if_pos h1, if_neg h2]
        rw [dec_false (fun h : node x y => h2 h.2.2.1)]
        exact Ev.now _
    · simp only [if_pos h0, if_neg h1]
      rw [dec_false (fun h : node x y => h1 h.2.1)]
      exact Ev.now _
  · simp only [if_neg h0]
    rw [dec_false (fun h : node x y => h0 h.1)]
    exact Ev.now _

theorem implExpr (x y : S26) (hx : smE x) : Ev (fun k => impl_sameExpr.f k x.f0 y.f0) (dec (expr x y)) := by
  unfold impl_sameExpr.f impl_ExNode.f
  refine Ev.bind (a := dec (expr x y)) ?_ (Ev.now _)
  have h0 := hx.1
  refine listEq node z32 x.f0 y.f0 (fun k j => impl_ExNode.l0 k y.f0 x.f0 (x.f0.length : Int) j) (by omega) (fun h => Ev.done (fun k => ?_)) (fun i r hi h hp e => ?_) (fun i hi h hp => ?_)
  · simp only [impl_ExNode.l0]; rw [if_neg (by omega)]
  · refine Ev.step (fun k => by simp only [impl_ExNode.l0]; rw [if_pos (by omega), if_pos (by omega), if_pos (by omega), if_pos (by omega), rd1, rd1]) ?_
    refine Ev.bind (implNode _ _ (hx.2 _ (getD_mem _ z32 hi))) ?_
    rw [dec_true hp]
    exact Ev.same e (fun k => if_pos rfl)
  · refine Ev.step (fun k => by simp only [impl_ExNode.l0]; rw [if_pos (by omega), if_pos (by omega), if_pos (by omega), if_pos (by omega), rd1, rd1]) ?_
    refine Ev.bind (implNode _ _ (hx.2 _ (getD_mem _ z32 hi))) ?_
    rw [dec_false hp]
    exact Ev.just (fun k => if_neg Bool.false_ne_true)

theorem implExprs (l m : List S26) (hl : l.length ≤ 1048576) (hx : ∀ x ∈ l, smE x) : Ev (fun k => impl_Expr.f k l m 0) (dec (L2 expr z26 l m)) := by
  unfold impl_Expr.f
  refine listEq expr z26 l m (fun k j => impl_Expr.l0 k m l (l.length : Int) j) (by omega) (fun h => Ev.done (fun k => ?_)) (fun i r hi h hp e => ?_) (fun i hi h hp => ?_)
  · simp only [impl_Expr.l0]; rw [if_neg (by omega)]
  · refine Ev.step (fun k => by simp only [impl_Expr.l0]; rw [if_pos (by omega), if_pos (by omega), if_pos (by omega), if_pos (by omega), rd2, rd2]) ?_
    refine Ev.bind (implExpr _ _ (hx _ (getD_mem _ z26 hi))) ?_
    rw [dec_true hp]
    exact Ev.same e (fun k => if_pos rfl)
  · refine Ev.step (fun k => by simp only [impl_Expr.l0]; rw [if_pos (by omega), if_pos (by omega), if_pos (by omega), if_pos (by omega), rd2, rd2]) ?_
    refine Ev.bind (implExpr _ _ (hx _ (getD_mem _ z26 hi))) ?_
    rw [dec_false hp]
    exact Ev.just (fun k => if_neg Bool.false_ne_true)

theorem spec1 (l m : List S26) (i : Nat) (hi : i < l.length) (hm : l.length = m.length) (hl : l.length ≤ 1048576) (hx : smE (l.getD i z26)) (hlen : (l.getD i z26).f0.length = (m.getD i z26).f0.length) :
    (∀ r, expr (l.getD i z26) (m.getD i z26) → Ev (fun k => spec_l11SameExprs.l0 k l m (wrap64 ((i : Int) + 1))) r → Ev (fun k => spec_l11SameExprs.l1 k l m i 0) r) ∧ (¬ expr (l.getD i z26) (m.getD i z26) → Ev (fun k => spec_l11SameExprs.l1 k l m i 0) false) := by
  have h0 := hx.1
  have e := each (fun k j => spec_l11SameExprs.l1 k l m i j) (l.getD i z26).f0.length (fun j => node ((l.getD i z26).f0.getD j z32) ((m.getD i z26).f0.getD j z32)) false (by omega)
    (fun j hj hp => by
      have start : ∀ r, Ev (fun k => if ((l.getD i z26).f0.getD j z32).f0 = ((m.getD i z26).f0.getD j z32).f0 then (if ((l.getD i z26).f0.getD j z32).f1 = ((m.getD i z26).f0.getD j z32).f1 then (if ((l.getD i z26).f0.getD j z32).f2.toList = ((m.getD i z26).f0.getD j z32).f2.toList then ((spec_l07SameInts.f k ((l.getD i z26).f0.getD j z32).f3 ((m.getD i z26).f0.getD j z32).f3).bind fun t => (if t = true then (spec_l11SameExprs.l1 k l m i (wrap64 ((j : Int) + 1))) else (some false))) else (some false)) else (some false)) else (some false)) r → Ev (fun k => spec_l11SameExprs.l1 k l m i j) r := by
        intro r e
        refine Ev.step (fun k => ?_) e
        simp only [spec_l11SameExprs.l1]
        rw [if_pos (by omega), if_pos (by omega), rd2, if_pos (by omega), if_pos (by omega), if_pos (by omega), rd2, if_pos (by omega), rd1, rd1]
      refine start false ?_
      by_cases a0 : ((l.getD i z26).f0.getD j z32).f0 = ((m.getD i z26).f0.getD j z32).f0
      · by_cases a1 : ((l.getD i z26).f0.getD j z32).f1 = ((m.getD i z26).f0.getD j z32).f1
        · by_cases a2 : ((l.getD i z26).f0.getD j z32).f2.toList = ((m.getD i z26).f0.getD j z32).f2.toList
          · simp only [if_pos a0, if_pos a1, if_pos a2]
            refine Ev.bind (specInts _ _ (hx.2 _ (getD_mem _ z32 hj))) ?_
            rw [dec_false (fun h => hp ⟨a0, a1, a2, h⟩)]
            exact Ev.just (fun k => if_neg Bool.false_ne_true)
          · simp only [if_pos a0, if_pos a1, if_neg a2]; exact Ev.now _
        · simp only [if_pos a0, if_neg a1]; exact Ev.now _
      · simp only [if_neg a0]; exact Ev.now _)
    (fun j r hj hp e => by
      obtain ⟨a0, a1, a2, a3⟩ := hp
      refine Ev.step (fun k => by
        simp only [spec_l11SameExprs.l1]
        rw [if_pos (by omega), if_pos (by omega), rd2, if_pos (by omega), if_pos (by omega), if_pos (by omega), rd2, if_pos (by omega), rd1, rd1, if_pos a0, if_pos a1, if_pos a2]) ?_
      refine Ev.bind (specInts _ _ (hx.2 _ (getD_mem _ z32 hj))) ?_
      rw [dec_true a3]
      exact Ev.same e (fun k => if_pos rfl))
  refine ⟨fun r hp e2 => e.1 r hp.2 (Ev.next e2 (fun k => ?_)), fun hp => e.2 (fun h => hp ⟨hlen, h⟩)⟩
  simp only [spec_l11SameExprs.l1]
  rw [if_pos (by omega), if_pos (by omega), rd2, if_neg (by omega)]

theorem specExprs (l m : List S26) (hl : l.length ≤ 1048576) (hx : ∀ x ∈ l, smE x) : Ev (fun k => spec_l11SameExprs.f k l m) (dec (L2 expr z26 l m)) := by
  unfold spec_l11SameExprs.f
  refine listEq expr z26 l m (fun k j => spec_l11SameExprs.l0 k l m j) (by omega) (fun h => Ev.done (fun k => ?_)) (fun i r hi h hp e => ?_) (fun i hi h hp => ?_)
  · simp only [spec_l11SameExprs.l0]; rw [if_neg (by omega)]
  · refine Ev.next ((spec1 l m i hi h hl (hx _ (getD_mem _ z26 hi)) hp.1).1 r hp e) (fun k => ?_)
    have := hp.1
    simp only [spec_l11SameExprs.l0]; rw [if_pos (by omega), if_pos (by omega), if_pos (by omega), rd2, rd2, if_pos (by omega)]
  · by_cases hlen : (l.getD i z26).f0.length = (m.getD i z26).f0.length
    · refine Ev.next ((spec1 l m i hi h hl (hx _ (getD_mem _ z26 hi)) hlen).2 hp) (fun k => ?_)
      simp only [spec_l11SameExprs.l0]; rw [if_pos (by omega), if_pos (by omega), if_pos (by omega), rd2, rd2, if_pos (by omega)]
    · refine Ev.done (fun k => ?_)
      simp only [spec_l11SameExprs.l0]; rw [if_pos (by omega), if_pos (by omega), if_pos (by omega), rd2, rd2, if_neg (by omega)]

/-! ### a node of a surface, a rule -/
def snode (x y : S144) : Prop := x.f0 = y.f0 ∧ x.f1.toList = y.f1.toList ∧ L2 expr z26 x.f2 y.f2 ∧ x.f3.toList = y.f3.toList ∧ L2 eqI 0 x.f4 y.f4
def srule (x y : S148) : Prop := x.f0.toList = y.f0.toList ∧ L2 eqB ByteArray.empty x.f1 y.f1 ∧ x.f2 = y.f2
def smS (x : S144) : Prop := (x.f2.length ≤ 1048576 ∧ ∀ y ∈ x.f2, smE y) ∧ x.f4.length ≤ 1048576
def smR (x : S148) : Prop := x.f1.length ≤ 1048576

theorem implSNode (x y : S144) (hx : smS x) : Ev (fun k => impl_SameSurface_1.f k x.f0 x.f1 x.f2 x.f3 x.f4 y.f0 y.f1 y.f2 y.f3 y.f4) (dec (snode x y)) := by
  unfold impl_SameSurface_1.f
  by_cases h0 : x.f0 = y.f0
  · by_cases h1 : x.f1.toList = y.f1.toList
    · simp only [if_pos h0, if_pos h1]
      refine Ev.bind (implExprs _ _ hx.1.1 hx.1.2) ?_
      by_cases h2 : L2 expr z26 x.f2 y.f2
      · rw [dec_true h2]
        simp only [if_true]
        by_cases h3 : x.f3.toList = y.f3.toList
        · simp only [if_pos h3]
          refine Ev.bind (implInts _ _ hx.2) ?_
          rw [dec_congr (show L2 eqI 0 x.f4 y.f4 ↔ snode x y from ⟨fun h => ⟨h0, h1, h2, h3, h⟩, fun h => h.2.2.2.2⟩)]
          exact Ev.now _
        · simp only [if_neg h3]
          rw [dec_false (fun h : snode x y => h3 h.2.2.2.1)]
          exact Ev.now _
      · rw [dec_false h2, dec_false (fun h : snode x y => h2 h.2.2.1)]
        exact Ev.just (fun k => if_neg Bool.false_ne_true)
    · simp only [if_pos h0, if_neg h1]
      rw [dec_false (fun h : snode x y => h1 h.2.1)]
      exact Ev.now _
  · simp only [if_neg h0]
    rw [dec_false (fun h : snode x y => h0 h.1)]
    exact Ev.now _
theorem implSRule (x y : S148) (hx : smR x) : Ev (fun k => impl_SameSurface_2.f k x.f0 x.f1 x.f2 y.f0 y.f1 y.f2) (dec (srule x y)) := by
  unfold impl_SameSurface_2.f
  by_cases h0 : x.f0.toList = y.f0.toList
  · simp only [if_pos h0]
    refine Ev.bind (implTexts _ _ hx) ?_
    by_cases h1 : L2 eqB ByteArray.empty x.f1 y.f1
    · rw [dec_true h1]
      simp only [if_true]
      by_cases h2 : x.f2 = y.f2
      · rw [dec_true (show srule x y from ⟨h0, h1, h2⟩), h2, beq_self_eq_true]
        exact Ev.now _
      · rw [dec_false (fun h : srule x y => h2 h.2.2), beq_eq_false_iff_ne.2 h2]
        exact Ev.now _
    · rw [dec_false h1, dec_false (fun h : srule x y => h1 h.2.1)]
      exact Ev.just (fun k => if_neg Bool.false_ne_true)
  · simp only [if_neg h0]
    rw [dec_false (fun h : srule x y => h0 h.1)]
    exact Ev.now _
theorem implSNodes (l m : List S144) (hl : l.length ≤ 1048576) (hx : ∀ x ∈ l, smS x) : Ev (fun k => impl_SNode.f k l m 0) (dec (L2 snode z144 l m)) := by
  unfold impl_SNode.f
  refine listEq snode z144 l m (fun k j => impl_SNode.l0 k m l (l.length : Int) j) (by omega) (fun h => Ev.done (fun k => ?_)) (fun i r hi h hp e => ?_) (fun i hi h hp => ?_)
  · simp only [impl_SNode.l0]; rw [if_neg (by omega)]
  · refine Ev.step (fun k => by simp only [impl_SNode.l0]; rw [if_pos (by omega), if_pos (by omega), if_pos (by omega), if_pos (by omega), rd3, rd3]) ?_
    refine Ev.bind (implSNode _ _ (hx _ (getD_mem _ z144 hi))) ?_
    rw [dec_true hp]
    exact Ev.same e (fun k => if_pos rfl)
  · refine Ev.step (fun k => by simp only [impl_SNode.l0]; rw [if_pos (by omega), if_pos (by omega), if_pos (by omega), if_pos (by omega), rd3, rd3]) ?_
    refine Ev.bind (implSNode _ _ (hx _ (getD_mem _ z144 hi))) ?_
    rw [dec_false hp]
    exact Ev.just (fun k => if_neg Bool.false_ne_true)
theorem implSRules (l m : List S148) (hl : l.length ≤ 1048576) (hx : ∀ x ∈ l, smR x) : Ev (fun k => impl_SRule.f k l m 0) (dec (L2 srule z148 l m)) := by
  unfold impl_SRule.f
  refine listEq srule z148 l m (fun k j => impl_SRule.l0 k m l (l.length : Int) j) (by omega) (fun h => Ev.done (fun k => ?_)) (fun i r hi h hp e => ?_) (fun i hi h hp => ?_)
  · simp only [impl_SRule.l0]; rw [if_neg (by omega)]
  · refine Ev.step (fun k => by simp only [impl_SRule.l0]; rw [if_pos (by omega), if_pos (by omega), if_pos (by omega), if_pos (by omega), rd4, rd4]) ?_
    refine Ev.bind (implSRule _ _ (hx _ (getD_mem _ z148 hi))) ?_
    rw [dec_true hp]
    exact Ev.same e (fun k => if_pos rfl)
  · refine Ev.step (fun k => by simp only [impl_SRule.l0]; rw [if_pos (by omega), if_pos (by omega), if_pos (by omega), if_pos (by omega), rd4, rd4]) ?_
    refine Ev.bind (implSRule _ _ (hx _ (getD_mem _ z148 hi))) ?_
    rw [dec_false hp]
    exact Ev.just (fun k => if_neg Bool.false_ne_true)

/-- All is small. -/
def small (l : List S144) (m : List S148) : Prop := (l.length ≤ 1048576 ∧ ∀ x ∈ l, smS x) ∧ (m.length ≤ 1048576 ∧ ∀ x ∈ m, smR x)

theorem implSame (a : List S144) (b : List S148) (c : List S144) (d : List S148) (hs : small a b) : Ev (fun k => impl_SameSurface.f k a b c d) (dec (L2 snode z144 a c ∧ L2 srule z148 b d)) := by
  unfold impl_SameSurface.f
  refine Ev.bind (implSNodes a c hs.1.1 hs.1.2) ?_
  by_cases h : L2 snode z144 a c
  · rw [dec_true h]
    simp only [if_true]
    refine Ev.bind (implSRules b d hs.2.1 hs.2.2) ?_
    rw [dec_congr (show L2 srule z148 b d ↔ (L2 snode z144 a c ∧ L2 srule z148 b d) from ⟨fun q => ⟨h, q⟩, fun q => q.2⟩)]
    exact Ev.now _
  · rw [dec_false h, dec_false (fun q : L2 snode z144 a c ∧ L2 srule z148 b d => h q.1)]
    exact Ev.just (fun k => if_neg Bool.false_ne_true)

theorem specR (a : List S144) (b : List S148) (c : List S144) (d : List S148) (hs : small a b) (hb : b.length = d.length) : Ev (fun k => spec_SameSurface.l1 k 0 a b c d) (dec (∀ i, i < b.length → srule (b.getD i z148) (d.getD i z148))) := by
  have hl := hs.2.1
  have e := each (fun k j => spec_SameSurface.l1 k j a b c d) b.length (fun i => srule (b.getD i z148) (d.getD i z148)) false (by omega)
    (fun j hj hp => by
      have hx := hs.2.2 _ (getD_mem b z148 hj)
      by_cases a0 : (b.getD j z148).f0.toList = (d.getD j z148).f0.toList
      · by_cases a1 : (b.getD j z148).f2 = (d.getD j z148).f2
        · refine Ev.step (fun k => by simp only [spec_SameSurface.l1]; rw [if_pos (by omega), if_pos (by omega), if_pos (by omega), rd4, rd4, if_pos a0, if_pos a1]) ?_
          refine Ev.bind (specTexts _ _ hx) ?_
          rw [dec_false (fun h => hp ⟨a0, h, a1⟩)]
          exact Ev.just (fun k => if_neg Bool.false_ne_true)
        · refine Ev.done (fun k => by simp only [spec_SameSurface.l1]; rw [if_pos (by omega), if_pos (by omega), if_pos (by omega), rd4, rd4, if_pos a0, if_neg a1])
      · refine Ev.done (fun k => by simp only [spec_SameSurface.l1]; rw [if_pos (by omega), if_pos (by omega), if_pos (by omega), rd4, rd4, if_neg a0]))
    (fun j r hj hp e => by
      have hx := hs.2.2 _ (getD_mem b z148 hj)
      refine Ev.step (fun k => by simp only [spec_SameSurface.l1]; rw [if_pos (by omega), if_pos (by omega), if_pos (by omega), rd4, rd4, if_pos hp.1, if_pos hp.2.2]) ?_
      refine Ev.bind (specTexts _ _ hx) ?_
      rw [dec_true hp.2.1]
      exact Ev.same e (fun k => if_pos rfl))
  by_cases hp : ∀ i, i < b.length → srule (b.getD i z148) (d.getD i z148)
  · rw [dec_true hp]
    refine e.1 true hp (Ev.done (fun k => ?_))
    simp only [spec_SameSurface.l1]
    rw [if_neg (by omega)]
  · rw [dec_false hp]
    exact e.2 hp

theorem specN (a : List S144) (b : List S148) (c : List S144) (d : List S148) (hs : small a b) (ha : a.length = c.length) (hb : b.length = d.length) : Ev (fun k => spec_SameSurface.l0 k 0 a b c d) (dec (L2 snode z144 a c ∧ L2 srule z148 b d)) := by
  have hl := hs.1.1
  have e := each (fun k j => spec_SameSurface.l0 k j a b c d) a.length (fun i => snode (a.getD i z144) (c.getD i z144)) false (by omega)
    (fun j hj hp => by
      have hx := hs.1.2 _ (getD_mem a z144 hj)
      by_cases a0 : (a.getD j z144).f0 = (c.getD j z144).f0
      · by_cases a1 : (a.getD j z144).f1.toList = (c.getD j z144).f1.toList
        · by_cases a3 : (a.getD j z144).f3.toList = (c.getD j z144).f3.toList
          · refine Ev.step (fun k => by simp only [spec_SameSurface.l0]; rw [if_pos (by omega), if_pos (by omega), if_pos (by omega), rd3, rd3, if_pos a0, if_pos a1, if_pos a3]) ?_
            refine Ev.bind (specExprs _ _ hx.1.1 hx.1.2) ?_
            by_cases a2 : L2 expr z26 (a.getD j z144).f2 (c.getD j z144).f2
            · rw [dec_true a2]
              simp only [if_true]
              refine Ev.bind (specInts _ _ hx.2) ?_
              rw [dec_false (fun h => hp ⟨a0, a1, a2, a3, h⟩)]
              exact Ev.just (fun k => if_neg Bool.false_ne_true)
            · rw [dec_false a2]
              exact Ev.just (fun k => if_neg Bool.false_ne_true)
          · refine Ev.done (fun k => by simp only [spec_SameSurface.l0]; rw [if_pos (by omega), if_pos (by omega), if_pos (by omega), rd3, rd3, if_pos a0, if_pos a1, if_neg a3])
        · refine Ev.done (fun k => by simp only [spec_SameSurface.l0]; rw [if_pos (by omega), if_pos (by omega), if_pos (by omega), rd3, rd3, if_pos a0, if_neg a1])
      · refine Ev.done (fun k => by simp only [spec_SameSurface.l0]; rw [if_pos (by omega), if_pos (by omega), if_pos (by omega), rd3, rd3, if_neg a0]))
    (fun j r hj hp e => by
      have hx := hs.1.2 _ (getD_mem a z144 hj)
      obtain ⟨a0, a1, a2, a3, a4⟩ := hp
      refine Ev.step (fun k => by simp only [spec_SameSurface.l0]; rw [if_pos (by omega), if_pos (by omega), if_pos (by omega), rd3, rd3, if_pos a0, if_pos a1, if_pos a3]) ?_
      refine Ev.bind (specExprs _ _ hx.1.1 hx.1.2) ?_
      rw [dec_true a2]
      simp only [if_true]
      refine Ev.bind (specInts _ _ hx.2) ?_
      rw [dec_true a4]
      exact Ev.same e (fun k => if_pos rfl))
  by_cases hp : ∀ i, i < a.length → snode (a.getD i z144) (c.getD i z144)
  · rw [dec_congr (show (L2 snode z144 a c ∧ L2 srule z148 b d) ↔ (∀ i, i < b.length → srule (b.getD i z148) (d.getD i z148)) from ⟨fun q => q.2.2, fun q => ⟨⟨ha, hp⟩, hb, q⟩⟩)]
    refine e.1 _ hp (Ev.next (specR a b c d hs hb) (fun k => ?_))
    simp only [spec_SameSurface.l0]
    rw [if_neg (by omega)]
  · rw [dec_false (fun q : L2 snode z144 a c ∧ L2 srule z148 b d => hp q.1.2)]
    exact e.2 hp

theorem specSame (a : List S144) (b : List S148) (c : List S144) (d : List S148) (hs : small a b) : Ev (fun k => spec_SameSurface.f k a b c d) (dec (L2 snode z144 a c ∧ L2 srule z148 b d)) := by
  unfold spec_SameSurface.f
  have bad : Ev (fun k => spec_SameSurface.j0 k true a b c d) false := Ev.done (fun k => by simp only [spec_SameSurface.j0]; exact if_pos trivial)
  by_cases h1 : a.length = c.length
  · have h1' : (a.length : Int) = (c.length : Int) := by omega
    simp only [if_pos h1']
    by_cases h2 : b.length = d.length
    · have h2' : ((b.length : Int) != (d.length : Int)) = false := by rw [h2, bne_self_eq_false]
      rw [h2']
      refine Ev.next (specN a b c d hs h1 h2) (fun k => ?_)
      simp only [spec_SameSurface.j0]
      exact if_neg Bool.false_ne_true
    · have h2' : ((b.length : Int) != (d.length : Int)) = true := bne_iff_ne.2 (by omega)
      rw [h2', dec_false (fun q : L2 snode z144 a c ∧ L2 srule z148 b d => h2 q.2.1)]
      exact bad
  · have h1' : ¬ (a.length : Int) = (c.length : Int) := by omega
    simp only [if_neg h1']
    rw [dec_false (fun q : L2 snode z144 a c ∧ L2 srule z148 b d => h1 q.1.1)]
    exact bad
end Go.Proofs.Ytlkbdoejeomlmaa.MFnExactSameSurface
