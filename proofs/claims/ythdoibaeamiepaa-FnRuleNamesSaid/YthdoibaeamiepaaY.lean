/- Short words for the walks: forks of a told result taken in one step, rows read together, operations of regions that draw. General; no condition. -/
import Derived.Test.YthdoibaeamiepaaX
import Derived.Test.YthdoibaeamiepaaWTab
namespace Go.Proofs.YthdoibaeamiepaaW.PrintMore
open Go.RowKit Go.Proofs.YthdoibaeamiepaaW.PrintWords Go.Proofs.YthdoibaeamiepaaW.PrintLast
theorem ap : (∀ (a : Act) (t : Tmp) (v : Value), a.put (some t) v = { a with tmps := a.tmps.setIfInBounds t v }) ∧ (∀ (a : Act) (v : Value), a.put none v = a) ∧ (∀ (xs : List Value) (i : Nat) (v : Value), xs.toArray.setIfInBounds i v = (xs.set i v).toArray) ∧ (∀ (x : Value) (xs : List Value) (v : Value), (x :: xs).set 0 v = v :: xs) ∧ (∀ (x : Value) (xs : List Value) (n : Nat) (v : Value), (x :: xs).set (n + 1) v = x :: xs.set n v) ∧ (∀ n : Int, IntKind.i64.wrap n = wrap64 n) ∧ (∀ n : Int, IntKind.i32.wrap n = wrap32 n) :=
  ⟨fun _ _ _ => rfl, fun _ _ => rfl, fun xs i v => List.setIfInBounds_toArray xs i v, fun _ _ _ => rfl, fun _ _ _ _ => rfl, i64_w, i32_w⟩
section
variable {α : Type} {x y r : α}
theorem ci {p : Prop} [Decidable p] (h : (if p then x else y) = r) : (p ∧ x = r) ∨ (¬ p ∧ y = r) := by
  by_cases c : p
  · rw [if_pos c] at h; exact .inl ⟨c, h⟩
  · rw [if_neg c] at h; exact .inr ⟨c, h⟩
theorem cd {p : Prop} [Decidable p] (h : (if p then x else y) = r) : (decide p = true ∧ x = r) ∨ (decide p = false ∧ y = r) := (ci h).imp (fun h => ⟨decide_eq_true h.1, h.2⟩) (fun h => ⟨decide_eq_false h.1, h.2⟩)
theorem cg {a b : Int} [Decidable (b < a)] (h : (if b < a then x else y) = r) : (decide (b < a) = true ∧ x = r) ∨ (decide (b < a) = false ∧ y = r) := cd h
theorem cG {a b : Int} [Decidable (b ≤ a)] (h : (if b ≤ a then x else y) = r) : (decide (b ≤ a) = true ∧ x = r) ∨ (decide (b ≤ a) = false ∧ y = r) := cd h
theorem ce {β : Type} {a b : β} [BEq β] [LawfulBEq β] [Decidable (a = b)] (h : (if a = b then x else y) = r) : (a = b ∧ (a == b) = true ∧ (a != b) = false ∧ x = r) ∨ (¬ a = b ∧ (a == b) = false ∧ (a != b) = true ∧ y = r) :=
  (ci h).imp (fun h => ⟨h.1, beq_iff_eq.mpr h.1, bne_eq_false_iff_eq.mpr h.1, h.2⟩) (fun h => ⟨h.1, beq_eq_false_iff_ne.mpr h.1, bne_iff_ne.mpr h.1, h.2⟩)
theorem cb {t : Bool} (h : (if t = true then x else y) = r) : (t = true ∧ x = r) ∨ (t = false ∧ y = r) := (ci h).imp id (fun h => ⟨Bool.eq_false_iff.mpr h.1, h.2⟩)
end
section
variable {α : Type} {x : Option α} {r : α}
theorem cm {p : Prop} [Decidable p] (h : (if p then x else none) = some r) : p ∧ x = some r := (ci h).resolve_right fun h => nomatch h.2
theorem cn {p : Prop} [Decidable p] (h : (if p then x else none) = some r) : decide p = true ∧ x = some r := (cd h).resolve_right fun h => nomatch h.2
theorem ob {β : Type} {o : Option β} {f : β → Option α} (h : o.bind f = some r) : ∃ t, Aside0 (o = some t) ∧ f t = some r := by
  obtain ⟨t, h1, h2⟩ := Option.bind_eq_some_iff.mp h
  exact ⟨t, ⟨h1⟩, h2⟩
theorem oo {β : Type} {o : Option β} {f : β → Option α} (h : o.bind f = some r) : ∃ t, o = some t ∧ f t = some r := Option.bind_eq_some_iff.mp h
end
theorem bt_w (s : ByteArray) (i : Int) (h0 : 0 ≤ i) (h1 : i < (s.size : Int)) : (0 ≤ i) = True ∧ (i < (s.size : Int)) = True ∧ ∀ h : i.toNat < s.size, ((s[i.toNat]'h).toNat : Int) = bt s i := ⟨eq_true h0, eq_true h1, bt_at s i⟩
section
variable {P : Program} {ops : Array Oper} {Q : Exit → Act → World → Prop} {md : Region.Mode} {S : World → Prop} {ds : List Nat} {T : Bool × List (List Nat × List Nat)} {B : List Nat}
theorem px_ (i : Nat) (N : Option Tmp) {oi : Oper} {v : Value} {fuel : Nat} {l : Array Bool} {a : Act} {w : World} (l' : Array Bool) {a' : Act}
    (h : wpAnyLast P md ops Q S ds fuel l' a' w) (hc : anyB md ops l l' i = true := by kernel_rfl) (hi : ops[i]? = some oi := by exact rfl) (hy : ∀ w, (execOp a.eval oi).run P w = .ok (.value v) w := by intro w'; go_simp; with_reducible rfl) (ha : a.put N v = a' := by simp only [ap]; rfl)
    (hN : oi.dst = N := by exact rfl) (hw : Region.wanted oi (yielded ops a.tmps) = true := by exact rfl) (hQ : ∀ c a w, Q (.panic c) (a.put oi.dst v) w → Q (.panic c) a w := by exact fun _ _ _ h => h) : wpAnyLast P md ops Q S ds (fuel + 1) l a w :=
  pure_ (i := i) (N := N) (v := v) l' hi hN hc hQ (.inl ⟨hw, hy⟩) ha h
theorem tx_ (i : Nat) (N : Option Tmp) {oi : Oper} {v : Value} {fuel : Nat} {l : Array Bool} {a : Act} {w : World} (l' : Array Bool) (hS : S w) {a' : Act}
    (h : wpAnyLast P md ops Q S ds fuel l' a' w) (hc : takeB md ops ds l l' i = true := by kernel_rfl) (hi : ops[i]? = some oi := by exact rfl) (hy : ∀ w, S w → (execOp a.eval oi).run P w = .ok (.value v) w := by intro w' s; repeat (have s0 := And.left s; replace s := And.right s); go_simp; with_reducible rfl) (ha : a.put N v = a' := by simp only [ap]; rfl)
    (hN : oi.dst = N := by exact rfl) (hw : Region.wanted oi (yielded ops a.tmps) = true := by exact rfl) (hQ : ∀ c a w, Q (.panic c) (a.put oi.dst v) w → Q (.panic c) a w := by exact fun _ _ _ h => h) : wpAnyLast P md ops Q S ds (fuel + 1) l a w :=
  take_ (i := i) (N := N) (v := v) l' hi hN hc hQ (.inl ⟨hw, hy⟩) hS ha h
theorem py_ (i : Nat) (N : Option Tmp) {oi : Oper} {v : Value} {fuel : Nat} {l : Array Bool} {a : Act} {w : World} (l' : Array Bool) (hT : Aside0 (rtab md ops = T)) {a' : Act}
    (h : wpAnyLast P md ops Q S ds fuel l' a' w) (hc : anyT T l.toList l'.toList i = true := by kernel_rfl) (hi : ops[i]? = some oi := by exact rfl) (hy : ∀ w, (execOp a.eval oi).run P w = .ok (.value v) w := by intro w'; go_simp; with_reducible rfl) (ha : a.put N v = a' := by simp only [ap]; rfl)
    (hN : oi.dst = N := by exact rfl) (hw : Region.wanted oi (yielded ops a.tmps) = true := by exact rfl) (hQ : ∀ c a w, Q (.panic c) (a.put oi.dst v) w → Q (.panic c) a w := by exact fun _ _ _ h => h) : wpAnyLast P md ops Q S ds (fuel + 1) l a w :=
  pure_ (i := i) (N := N) (v := v) l' hi hN (any_of hT.out hc) hQ (.inl ⟨hw, hy⟩) ha h
theorem un_ (i : Nat) (N : Option Tmp) {oi : Oper} {fuel : Nat} {l : Array Bool} {a : Act} {w : World} (l' : Array Bool) (hT : Aside0 (rtab md ops = T)) {a' : Act}
    (h : wpAnyLast P md ops Q S ds fuel l' a' w) (hc : anyT T l.toList l'.toList i = true := by kernel_rfl) (hi : ops[i]? = some oi := by exact rfl) (hw : Region.wanted oi (yielded ops a.tmps) = false := by rfl) (ha : a.put N undef = a' := by simp only [ap]; rfl)
    (hN : oi.dst = N := by exact rfl) (hQ : ∀ c a w, Q (.panic c) (a.put oi.dst undef) w → Q (.panic c) a w := by exact fun _ _ _ h => h) : wpAnyLast P md ops Q S ds (fuel + 1) l a w :=
  pure_ (i := i) (N := N) (v := undef) l' hi hN (any_of hT.out hc) hQ (.inr ⟨hw, rfl⟩) ha h
theorem tk_ (i : Nat) (N : Option Tmp) {oi : Oper} {v : Value} {fuel : Nat} {l : Array Bool} {a : Act} {w : World} (l' : Array Bool) (hT : Aside0 (rtab md ops = T)) (hW : Aside0 (waitsOk T.2 B = true)) (hS : S w) {a' : Act}
    (h : wpAnyLast P md ops Q S ds fuel l' a' w) (hc : takeW T B ds l.toList l'.toList i = true := by kernel_rfl) (hi : ops[i]? = some oi := by exact rfl) (hy : ∀ w, S w → (execOp a.eval oi).run P w = .ok (.value v) w := by intro w' s; repeat (have s0 := And.left s; replace s := And.right s); go_simp; with_reducible rfl) (ha : a.put N v = a' := by simp only [ap]; rfl)
    (hN : oi.dst = N := by exact rfl) (hw : Region.wanted oi (yielded ops a.tmps) = true := by exact rfl) (hQ : ∀ c a w, Q (.panic c) (a.put oi.dst v) w → Q (.panic c) a w := by exact fun _ _ _ h => h) : wpAnyLast P md ops Q S ds (fuel + 1) l a w :=
  take_ (i := i) (N := N) (v := v) l' hi hN (take_ofW hT.out hW.out hc) hQ (.inl ⟨hw, hy⟩) hS ha h
end
section
variable {P : Program} {ops : Array Oper} {o : Oper} {rest : List Oper} {a : Act} {W : World} {Q : Exit → Act → World → Prop}
theorem gc {ops : Array Oper} {Q : Exit → Act → World → Prop} (f : FuncId) {as : Array Operand} {ts : Array TypeId} (h : wpList P ops Q (o :: rest) a W) (_ho : o.op = .call { callee := .value (.func f), args := as, argTypes := ts } := by exact rfl) : wpList P ops Q (o :: rest) a W := h
theorem gd {ops : Array Oper} {Q : Exit → Act → World → Prop} (N : Tmp) (h : wpList P ops Q (o :: rest) a W) (_ho : o.dst = some N := by exact rfl) : wpList P ops Q (o :: rest) a W := h
theorem gl_ {f : FuncId} (N : Tmp) {fn : Func} (hf : P.funcs[f]? = some fn) (args : Array Value) {as : Array Operand} {ts : Array TypeId}
    (h : Calls P f args W fun e w' => ∃ v, e = .returned v ∧ wpList P ops Q rest (a.put (some N) v) w')
    (hop : o.op = .call { callee := .value (.func f), args := as, argTypes := ts } := by exact rfl) (hd : o.dst = some N := by exact rfl) (hg : o.guard = none := by exact rfl) (hname : (fn.name == "runtime.NumGoroutine") = false := by kernel_rfl) (hb : fn.body.isSome = true := by exact rfl)
    (hargs : as.map a.eval = args := by (try simp only [List.map_toArray, List.map_cons, List.map_nil]); rfl) : wpList P ops Q (o :: rest) a W :=
  goesL_ (some N) hd hg hf hname hb args hop hargs h
theorem bx_ {N : Tmp} (cs : Array Value) (t : TypeId)
    (h : ∀ g, g = W.heap.size → ∀ w1, w1.heap[g]? = some (.cells cs t (0, 0)) → Below W.heap.size W w1 → wpList P ops Q rest (a.put o.dst (.pointer (some ⟨g, 0, none⟩))) w1)
    (hd : o.dst = some N := by exact rfl) (hg : o.guard = none := by exact rfl) (hrun : (execOp a.eval o).run P W = .ok (.value (.pointer (some ⟨W.heap.size, 0, none⟩))) (W.alloc (.cells cs t (0, 0))) := by go_simp; done) : wpList P ops Q (o :: rest) a W :=
  box_event hg hd hrun h
end
theorem si {α : Type} {a r : α} (h : some a = some r) : a = r := Option.some.inj h
theorem s2 {α β : Type} {a c : α} {b d : β} (h : some (a, b) = some (c, d)) : a = c ∧ b = d := Prod.mk.inj (Option.some.inj h)
theorem s3 {α β γ : Type} {a c : α} {b d : β} {e f : γ} (h : some (a, b, e) = some (c, d, f)) : a = c ∧ b = d ∧ e = f := ⟨(s2 h).1, Prod.mk.inj (s2 h).2⟩
theorem am {p : Prop} (h : p) : Aside0 p := ⟨h⟩
section
variable {P : Program} {ops : Array Oper} {o : Oper} {rest : List Oper} {a : Act} {W : World} {Q : Exit → Act → World → Prop}
theorem bo_ {N : Tmp} (cs : Array Value) (t : TypeId) {w : World}
    (h : ∀ g, g = W.heap.size → ∀ w1, Below W.heap.size W w1 → Aside0 (w1.heap[g]? = some (.cells cs t (0, 0))) → Aside0 (w.heap.size ≤ g) → Aside0 (Below w.heap.size w w1) → wpList P ops Q rest (a.put o.dst (.pointer (some ⟨g, 0, none⟩))) w1)
    (hd : o.dst = some N := by exact rfl) (hg : o.guard = none := by exact rfl) (hrun : (execOp a.eval o).run P W = .ok (.value (.pointer (some ⟨W.heap.size, 0, none⟩))) (W.alloc (.cells cs t (0, 0))) := by go_simp; done) (hB : Below w.heap.size w W := by exact bw) : wpList P ops Q (o :: rest) a W :=
  box_event hg hd hrun fun g e w1 hb hc => h g e w1 hc ⟨hb⟩ ⟨bz hB e⟩ ⟨below_step hB hc⟩
end
section
variable {P : Program} {ops : Array Oper} {Q : Exit → Act → World → Prop} {md : Region.Mode} {S : World → Prop} {ds : List Nat} {T : Bool × List (List Nat × List Nat)}
theorem nm_ {fuel : Nat} {l : Array Bool} {a a' : Act} {w : World} (h : wpAnyLast P md ops Q S ds fuel l a' w) (ha : a = a' := by show Act.put _ _ _ = _; simp only [ap]; rfl) : wpAnyLast P md ops Q S ds fuel l a w := norm_ ha h
theorem nn_ (N : Option Tmp) {b : Act} {v : Value} {fuel : Nat} {l : Array Bool} {a a' : Act} {w : World} (h : wpAnyLast P md ops Q S ds fuel l a' w) (e : a = b.put N v := by exact rfl) (ha : b.put N v = a' := by simp only [ap]; rfl) : wpAnyLast P md ops Q S ds fuel l a w := norm_ (e.trans ha) h
theorem on_ (i : Nat) (N : Option Tmp) {oi : Oper} {fuel : Nat} {l : Array Bool} {a : Act} {w : World} (l' : Array Bool) (hT : Aside0 (rtab md ops = T))
    (h : ∀ K : Act → World → Prop, Shut (∀ a' w', S w' → (S w' → wpAnyLast P md ops Q S ds fuel l' a' w') → K a' w') → if Region.wanted oi (yielded ops a.tmps) = true then Oper.wp P oi a w K Q else K (a.put N undef) w)
    (hi : ops[i]? = some oi := by exact rfl) (hN : oi.dst = N := by exact rfl) (hc : (readyT T.2 l.toList == [i] && l.toList.set i true == l'.toList) = true := by kernel_rfl) (hd : i ∉ ds := by decide) : wpAnyLast P md ops Q S ds (fuel + 1) l a w := one_ l' hi hN (one_of hT.out hc) hd h
theorem gs_ {oi : Oper} {N : Option Tmp} {a : Act} {w : World} {K : Act → World → Prop} {f : FuncId} {fn : Func} (hf : P.funcs[f]? = some fn) {as : Array Operand} {ts : Array TypeId} (args : Array Value)
    (h : Calls P f args w fun e w' => ∃ v, e = .returned v ∧ K (a.put N v) w')
    (hname : (fn.name == "runtime.NumGoroutine") = false := by kernel_rfl) (hb : fn.body.isSome = true := by exact rfl) (hw : Region.wanted oi (yielded ops a.tmps) = true := by rfl) (hN : oi.dst = N := by exact rfl) (hop : oi.op = .call { callee := .value (.func f), args := as, argTypes := ts } := by exact rfl) (hargs : as.map a.eval = args := by (try simp only [List.map_toArray, List.map_cons, List.map_nil]); rfl) : if Region.wanted oi (yielded ops a.tmps) = true then Oper.wp P oi a w K Q else K (a.put N undef) w :=
  goes_ hf hname hb args hw hN hop hargs h
end
theorem bb {w w1 : World} {g : Nat} {o : Obj} (h : Aside0 (w.heap[g]? = some o)) (hb : Below w.heap.size w w1) : Aside0 (w1.heap[g]? = some o) := ⟨blk_below h.out hb⟩
end Go.Proofs.YthdoibaeamiepaaW.PrintMore
