/- What slices.Sort and slices.Compact do at a row of bytes: they come back, and they write nothing but that row, whatever it holds. No condition. -/
import Derived.Test.YtceimgnkkclebaaX
import Derived.Test.YtceimgnkkclebaaShelf
import Derived.WalkKit
import Derived.BigGuard
import Derived.BigCall
import Derived.CellFam
import Derived.Deep.Draws
import Derived.Deep.QuietTactic
import Derived.BigQuiet
import Derived.Lib.SliceRun
import Derived.Sort.OwnSorted
namespace Go.Proofs.Ytceimgnkkclebaa.Wk
open Go.RowKit Go.Proofs.YtceimgnkkclebaaW.PrintWords Go.Proofs.YtceimgnkkclebaaW.PrintLast Go.Proofs.YtceimgnkkclebaaW.PrintMore
set_option linter.unusedVariables false
set_option linter.unusedSimpArgs false
inductive Alike : Value → Value → Prop
  | refl (v : Value) : Alike v v
  | int (k : IntKind) (x y : Int) : Alike (.int k x) (.int k y)
  | str (x y : ByteArray) : Alike (.string x) (.string y)
theorem Alike.trans {u v z : Value} (h : Alike u v) (k : Alike v z) : Alike u z := by
  cases h with
  | refl => exact k
  | int a x y => cases k with
    | refl => exact .int _ _ _
    | int => exact .int _ _ _
  | str x y => cases k with
    | refl => exact .str _ _
    | str => exact .str _ _
structure Sim (ok : Nat → Prop) (w w' : World) : Prop where
  os : w'.os = w.os
  tape : w'.tape = w.tape
  output : w'.output = w.output
  size : w.heap.size ≤ w'.heap.size
  off : ∀ i : Nat, i < w.heap.size → ¬ ok i → w'.heap[i]? = w.heap[i]?
  on : ∀ (i : Nat) (cs : Array Value) (e : Nat), w.heap[i]? = some (Obj.cells cs e (0, 0)) → ∃ cs' : Array Value, w'.heap[i]? = some (Obj.cells cs' e (0, 0)) ∧ ∀ (j : Nat) (u : Value), cs[j]? = some u → ∃ u', cs'[j]? = some u' ∧ Alike u u'
theorem Sim.refl (ok : Nat → Prop) (w : World) : Sim ok w w := ⟨rfl, rfl, rfl, Nat.le_refl _, fun _ _ _ => rfl, fun _ cs _ h => ⟨cs, h, fun _ u hu => ⟨u, hu, .refl u⟩⟩⟩
theorem Sim.trans {ok : Nat → Prop} {w w1 w2 : World} (h : Sim ok w w1) (k : Sim ok w1 w2) : Sim ok w w2 := by
  refine ⟨k.os.trans h.os, k.tape.trans h.tape, k.output.trans h.output, Nat.le_trans h.size k.size, fun i hi hn => (k.off i (Nat.lt_of_lt_of_le hi h.size) hn).trans (h.off i hi hn), fun i cs e hc => ?_⟩
  obtain ⟨c1, h1, a1⟩ := h.on i cs e hc
  obtain ⟨c2, h2, a2⟩ := k.on i c1 e h1
  refine ⟨c2, h2, fun j u hu => ?_⟩
  obtain ⟨u1, e1, b1⟩ := a1 j u hu
  obtain ⟨u2, e2, b2⟩ := a2 j u1 e1
  exact ⟨u2, e2, b1.trans b2⟩
theorem Sim.of_below {ok : Nat → Prop} {w w' : World} (h : Below w.heap.size w w') : Sim ok w w' := by
  refine ⟨h.os, h.tape, h.output, h.size, fun i hi _ => h.block i hi, fun i cs e hc => ?_⟩
  have hi : i < w.heap.size := (Array.getElem?_eq_some_iff.1 hc).1
  exact ⟨cs, (h.block i hi).trans hc, fun _ u hu => ⟨u, hu, .refl u⟩⟩
theorem Sim.set {ok : Nat → Prop} {w : World} {g e : Nat} {cs : Array Value} (hb : w.heap[g]? = some (.cells cs e (0, 0))) {j : Nat} {u0 u : Value} (hu : cs[j]? = some u0) (ha : Alike u0 u) (hg : ok g) : Sim ok w (w.setCell ⟨g, j, none⟩ u) := by
  refine ⟨rfl, rfl, rfl, by simp [World.setCell], fun i _ hn => Below.heap_setCell w ⟨g, j, none⟩ u i (fun e => hn (e ▸ hg)), fun i c2 e2 hc => ?_⟩
  by_cases hi : i = g
  · subst hi
    rw [hb] at hc
    injection hc with hc
    injection hc with h1 h2
    subst h1 h2
    refine ⟨cs.setIfInBounds j u, blk_put hb j u rfl, fun q z hz => ?_⟩
    by_cases hq : q = j
    · subst hq
      have hlt : q < cs.size := (Array.getElem?_eq_some_iff.1 hu).1
      refine ⟨u, by simp [hlt], ?_⟩
      rw [hu] at hz
      have := Option.some.inj hz
      subst this
      exact ha
    · exact ⟨z, by simpa [Array.getElem?_setIfInBounds, Ne.symm hq] using hz, .refl z⟩
  · exact ⟨c2, (Below.heap_setCell w ⟨g, j, none⟩ u i hi).trans hc, fun _ z hz => ⟨z, hz, .refl z⟩⟩
abbrev Fm := World → Value → Nat → Prop
def Fm.int (k : IntKind) : Fm := fun _ v c => (∃ x, v = .int k x) ∧ c = 1
def Fm.str : Fm := fun _ v c => (∃ x, v = .string x) ∧ c = 1
def Fm.sl (ok : Nat → Prop) (e : Nat) (fs : List Fm) : Fm := fun w v c => ∃ A n cap, ∃ L : List Nat, v = .slice A n cap ∧ n ≤ 9223372036854775807 ∧ L.length = n ∧ c = L.sum ∧ ∀ (i ci : Nat), L[i]? = some ci → ∃ (g : Nat) (cells : Array Value), ∃ cs : List Nat, A = some ⟨g, 0, none⟩ ∧ ok g ∧ w.heap[g]? = some (.cells cells e (0, 0)) ∧ cs.length = fs.length ∧ ci = cs.sum ∧ ∀ (j : Nat) (f : Fm) (cj : Nat), fs[j]? = some f → cs[j]? = some cj → ∃ u, cells[i * fs.length + j]? = some u ∧ f w u cj
def Fm.Stays (ok : Nat → Prop) (f : Fm) : Prop := ∀ w w' u u' c, Sim ok w w' → Alike u u' → f w u c → f w' u' c
def Forms {α : Type} (d : Kd α) (fs : List Fm) (ok : Nat → Prop) (cnt : α → Nat) : Prop := d.sz = fs.length ∧ ∀ (w : World) (base : Nat) (ok' : Nat → Prop) (x : α) (cs : List Value), d.M w base ok' x cs → (∀ k, ok' k → ok k) → ∃ ns : List Nat, ns.length = fs.length ∧ cnt x = ns.sum ∧ ∀ (j : Nat) (f : Fm) (n : Nat), fs[j]? = some f → ns[j]? = some n → ∃ u, cs[j]? = some u ∧ f w u n
theorem Forms.int (ok : Nat → Prop) (k : IntKind) : Forms (Kd.int k) [Fm.int k] ok (fun _ => 1) := by
  refine ⟨rfl, fun w base ok' x cs h _ => ⟨[1], rfl, rfl, fun j f n hj hn => ?_⟩⟩
  have h : cs = [.int k x] := h
  subst h
  match j, hj, hn with
  | 0, hj, hn =>
    have := Option.some.inj hj
    have := Option.some.inj hn
    subst_vars
    exact ⟨_, rfl, ⟨_, rfl⟩, rfl⟩
theorem Forms.string (ok : Nat → Prop) : Forms Kd.string [Fm.str] ok (fun _ => 1) := by
  refine ⟨rfl, fun w base ok' x cs h _ => ⟨[1], rfl, rfl, fun j f n hj hn => ?_⟩⟩
  have h : cs = [.string x] := h
  subst h
  match j, hj, hn with
  | 0, hj, hn =>
    have := Option.some.inj hj
    have := Option.some.inj hn
    subst_vars
    exact ⟨_, rfl, ⟨_, rfl⟩, rfl⟩
theorem Forms.pair {α β : Type} {a : Kd α} {b : Kd β} {fa fb : List Fm} {ok : Nat → Prop} {ca : α → Nat} {cb : β → Nat} (h : Forms a fa ok ca) (g : Forms b fb ok cb) : Forms (Kd.pair a b) (fa ++ fb) ok (fun x => ca x.1 + cb x.2) := by
  refine ⟨by show a.sz + b.sz = _; rw [h.1, g.1, List.length_append], fun w base ok' x cs hM hok => ?_⟩
  obtain ⟨c0, c1, rfl, h0, h1⟩ := hM
  obtain ⟨n0, l0, s0, e0⟩ := h.2 w base ok' x.1 c0 h0 hok
  obtain ⟨n1, l1, s1, e1⟩ := g.2 w base ok' x.2 c1 h1 hok
  have hc0 : c0.length = fa.length := (a.K_len (a.K_of_M h0)).trans h.1
  refine ⟨n0 ++ n1, by rw [List.length_append, l0, l1, List.length_append], by rw [List.sum_append, ← s0, ← s1], fun j f n hj hn => ?_⟩
  rcases Nat.lt_or_ge j fa.length with hlt | hge
  · rw [List.getElem?_append_left hlt] at hj
    rw [List.getElem?_append_left (by omega)] at hn
    obtain ⟨u, hu, hf⟩ := e0 j f n hj hn
    exact ⟨u, by rw [List.getElem?_append_left (by omega)]; exact hu, hf⟩
  · rw [List.getElem?_append_right hge] at hj
    rw [List.getElem?_append_right (by omega)] at hn
    obtain ⟨u, hu, hf⟩ := e1 (j - fa.length) f n hj (by rw [← l0]; exact hn)
    exact ⟨u, by rw [List.getElem?_append_right (by omega), hc0]; exact hu, hf⟩
theorem Forms.iso {α β : Type} {d : Kd α} {fs : List Fm} {ok : Nat → Prop} {c : α → Nat} (h : Forms d fs ok c) (f : β → α) : Forms (Kd.iso d f) fs ok (fun x => c (f x)) := ⟨h.1, fun w base ok' x cs hM hok => h.2 w base ok' (f x) cs hM hok⟩
theorem Fm.of_R {α : Type} {d : Kd α} {fs : List Fm} {ok ok' : Nat → Prop} {cnt : α → Nat} {e base : Nat} {w : World} {v : Value} {xs : List α} (h : Forms d fs ok cnt) (hR : d.R e w base ok' v xs) (hok : ∀ k, ok' k → ok k) : Fm.sl ok e fs w v ((xs.map cnt).sum) := by
  obtain ⟨h0, inner, ho, hr⟩ := hR
  rcases ho.2 with ⟨rfl, hn⟩ | ⟨g, cap, cur, rfl, hbase, hb, h1, h2, h3, h4⟩
  · have : xs = [] := List.eq_nil_of_length_eq_zero hn
    subst this
    exact ⟨none, 0, 0, [], rfl, by omega, rfl, rfl, fun i ci hi => by simp at hi⟩
  · refine ⟨_, _, _, xs.map cnt, rfl, ?_, by simp, rfl, fun i ci hi => ?_⟩
    · have : maxLen ≤ 9223372036854775807 := by decide
      omega
    · rw [List.getElem?_map] at hi
      obtain ⟨x, hx, rfl⟩ := Option.map_eq_some_iff.1 hi
      have hil : i < xs.length := (List.getElem?_eq_some_iff.1 hx).1
      obtain ⟨ns, hl, hs, hc⟩ := h.2 w base _ x _ (hr.2 i x hx) (fun k hk => hok k hk.1)
      refine ⟨g, cur, ns, rfl, hok g (h0 g (by simp [Value.ownBlock])), hb, hl, hs, fun j f cj hj hcj => ?_⟩
      obtain ⟨u, hu, hf⟩ := hc j f cj hj hcj
      refine ⟨u, ?_, hf⟩
      have hjl : j < d.sz := by rw [h.1]; exact (List.getElem?_eq_some_iff.1 hj).1
      rw [List.getElem?_take_of_lt hjl, List.getElem?_drop, ← h4, h.1] at hu
      have hlt : i * fs.length + j < xs.length * d.sz := by
        rw [← h.1]
        have : i * d.sz + d.sz ≤ xs.length * d.sz := by rw [← Nat.succ_mul]; exact Nat.mul_le_mul_right _ hil
        omega
      rw [← h.1] at hu ⊢
      rw [← h.1] at hlt
      rw [List.getElem?_take_of_lt hlt, Array.getElem?_toList] at hu
      exact hu
theorem Forms.slice {α : Type} {d : Kd α} {fs : List Fm} {ok : Nat → Prop} {cnt : α → Nat} (h : Forms d fs ok cnt) (e : Nat) : Forms (Kd.slice e d) [Fm.sl ok e fs] ok (fun xs => (xs.map cnt).sum) := by
  refine ⟨rfl, fun w base ok' x cs hM hok => ?_⟩
  obtain ⟨v, rfl, hR⟩ := hM
  refine ⟨[(x.map cnt).sum], rfl, by simp, fun j f n hj hn => ?_⟩
  match j, hj, hn with
  | 0, hj, hn =>
    have := Option.some.inj hj
    have := Option.some.inj hn
    subst_vars
    exact ⟨_, rfl, Fm.of_R h hR hok⟩
structure El (ok : Nat → Prop) (e : Nat) (fs : List Fm) (w : World) (g i : Nat) (cs : List Nat) : Prop where
  mine : ok g
  len : cs.length = fs.length
  blk : ∃ cells : Array Value, w.heap[g]? = some (Obj.cells cells e (0, 0)) ∧ ∀ (j : Nat) (f : Fm) (cj : Nat), fs[j]? = some f → cs[j]? = some cj → ∃ u, cells[i * fs.length + j]? = some u ∧ f w u cj
theorem El.sim {ok : Nat → Prop} {e : Nat} {fs : List Fm} {w wl : World} {g i : Nat} {cs : List Nat} (h : El ok e fs w g i cs) (hs : Sim ok w wl) (hst : ∀ f ∈ fs, f.Stays ok) : El ok e fs wl g i cs := by
  refine ⟨h.mine, h.len, ?_⟩
  obtain ⟨cells, hb, hc⟩ := h.blk
  obtain ⟨cells', hb', hall⟩ := hs.on g cells e hb
  refine ⟨cells', hb', fun j f cj hj hcj => ?_⟩
  obtain ⟨u, hu, hf⟩ := hc j f cj hj hcj
  obtain ⟨u', hu', ha⟩ := hall _ u hu
  exact ⟨u', hu', hst f (List.mem_of_getElem? hj) w wl u u' cj hs ha hf⟩
theorem El.cell {ok : Nat → Prop} {e : Nat} {fs : List Fm} {w : World} {g i : Nat} {cs : List Nat} (h : El ok e fs w g i cs) (j : Nat) {f : Fm} {cj : Nat} (hj : fs[j]? = some f) (hcj : cs[j]? = some cj) : ∃ u, w.cell? ⟨g, i * fs.length + j, none⟩ = some u ∧ w.frozen? ⟨g, i * fs.length + j, none⟩ = false ∧ f w u cj ∧ ∀ y, Alike u y → Sim ok w (w.setCell ⟨g, i * fs.length + j, none⟩ y) := by
  obtain ⟨cells, hb, hc⟩ := h.blk
  obtain ⟨u, hu, hf⟩ := hc j f cj hj hcj
  exact ⟨u, (blk_cell hb _).trans hu, blk_frozen hb _, hf, fun y hy => Sim.set hb hu hy h.mine⟩
theorem El.int {ok : Nat → Prop} {e : Nat} {fs : List Fm} {w : World} {g i : Nat} {cs : List Nat} (h : El ok e fs w g i cs) (j : Nat) {k : IntKind} {cj : Nat} (hj : fs[j]? = some (Fm.int k)) (hcj : cs[j]? = some cj) : ∃ x, w.cell? ⟨g, i * fs.length + j, none⟩ = some (.int k x) ∧ w.frozen? ⟨g, i * fs.length + j, none⟩ = false ∧ ∀ y, Sim ok w (w.setCell ⟨g, i * fs.length + j, none⟩ (.int k y)) := by
  obtain ⟨u, hu, hz, ⟨⟨x, rfl⟩, _⟩, hs⟩ := h.cell j hj hcj
  exact ⟨x, hu, hz, fun y => hs _ (.int _ _ _)⟩
theorem El.str {ok : Nat → Prop} {e : Nat} {fs : List Fm} {w : World} {g i : Nat} {cs : List Nat} (h : El ok e fs w g i cs) (j : Nat) {cj : Nat} (hj : fs[j]? = some Fm.str) (hcj : cs[j]? = some cj) : ∃ x, w.cell? ⟨g, i * fs.length + j, none⟩ = some (.string x) ∧ w.frozen? ⟨g, i * fs.length + j, none⟩ = false ∧ ∀ y, Sim ok w (w.setCell ⟨g, i * fs.length + j, none⟩ (.string y)) := by
  obtain ⟨u, hu, hz, ⟨⟨x, rfl⟩, _⟩, hs⟩ := h.cell j hj hcj
  exact ⟨x, hu, hz, fun y => hs _ (.str _ _)⟩
theorem El.one {ok : Nat → Prop} {e : Nat} {fs : List Fm} {w : World} {g i : Nat} {cs : List Nat} (h : El ok e fs w g i cs) (j : Nat) {k : IntKind} {cj : Nat} (hj : fs[j]? = some (Fm.int k)) (hcj : cs[j]? = some cj) : cj = 1 := by
  obtain ⟨u, _, _, ⟨_, hc⟩, _⟩ := h.cell j hj hcj
  exact hc
theorem El.oneS {ok : Nat → Prop} {e : Nat} {fs : List Fm} {w : World} {g i : Nat} {cs : List Nat} (h : El ok e fs w g i cs) (j : Nat) {cj : Nat} (hj : fs[j]? = some Fm.str) (hcj : cs[j]? = some cj) : cj = 1 := by
  obtain ⟨u, _, _, ⟨_, hc⟩, _⟩ := h.cell j hj hcj
  exact hc
structure Bt (ok : Nat → Prop) (w : World) (g off n : Nat) : Prop where
  mine : ok g
  blk : ∃ (cs : Array Value) (e : Nat), w.heap[g]? = some (Obj.cells cs e (0, 0)) ∧ ∀ j, j < n → ∃ x, cs[off + j]? = some (Value.int .u8 x)
theorem Bt.sim {ok : Nat → Prop} {w w' : World} {g off n : Nat} (h : Bt ok w g off n) (hs : Sim ok w w') : Bt ok w' g off n := by
  obtain ⟨cs, e, hb, hc⟩ := h.blk
  obtain ⟨cs', hb', ha⟩ := hs.on g cs e hb
  refine ⟨h.mine, cs', e, hb', fun j hj => ?_⟩
  obtain ⟨x, hx⟩ := hc j hj
  obtain ⟨u, hu, hal⟩ := ha _ _ hx
  cases hal with
  | refl => exact ⟨x, hu⟩
  | int _ _ y => exact ⟨y, hu⟩
theorem Bt.fam {ok : Nat → Prop} {w : World} {g off n : Nat} (h : Bt ok w g off n) : ∃ G : Nat → Int, (∀ t, t < n → w.cell? ⟨g, off + t, none⟩ = some (.int .u8 (G t))) ∧ ∀ t, t < n → w.frozen? ⟨g, off + t, none⟩ = false := by
  obtain ⟨cs, e, hb, hc⟩ := h.blk
  refine ⟨fun t => match cs[off + t]? with | some (.int _ x) => x | _ => 0, fun t ht => ?_, fun t _ => blk_frozen hb _⟩
  obtain ⟨x, hx⟩ := hc t ht
  exact (blk_cell hb _).trans (hx.trans (by simp [hx]))
theorem Bt.put {ok : Nat → Prop} {w : World} {g off n : Nat} (h : Bt ok w g off n) (j : Nat) (hj : j < n) (y : Int) : Sim ok w (w.setCell ⟨g, off + j, none⟩ (.int .u8 y)) := by
  obtain ⟨cs, e, hb, hc⟩ := h.blk
  obtain ⟨x, hx⟩ := hc j hj
  exact Sim.set hb hx (.int _ _ _) h.mine
theorem Sim.drew {ok : Nat → Prop} {w w' : World} (h : Sim ok w w') : Sim ok w w'.drew := ⟨h.os, h.tape, h.output, h.size, h.off, h.on⟩
theorem Sim.drewN {ok : Nat → Prop} {w w' : World} (h : Sim ok w w') (m : Nat) : Sim ok w (w'.drewN m) := ⟨h.os, h.tape, h.output, h.size, h.off, h.on⟩
theorem Sim.eqv {ok : Nat → Prop} {w w2 : World} (h1 : w2.heap = w.heap) (h2 : w2.os = w.os) (h3 : w2.tape = w.tape) (h4 : w2.output = w.output) : Sim ok w w2 := by
  refine ⟨h2, h3, h4, by rw [h1]; exact Nat.le_refl _, fun i _ _ => by rw [h1], fun i cs e h => ⟨cs, by rw [h1]; exact h, fun _ u hu => ⟨u, hu, .refl u⟩⟩⟩
theorem Bt.swap {ok : Nat → Prop} {w w2 : World} {g off n : Nat} (h : Bt ok w g off n) (h0 : Sim ok w w2) (i j : Nat) (hi : i < n) (hj : j < n) (x y : Int) : Sim ok w ((w2.setCell ⟨g, off + i, none⟩ (.int .u8 x)).setCell ⟨g, off + j, none⟩ (.int .u8 y)) := by
  have h1 := (h.sim h0).put i hi x
  have h2 := ((h.sim h0).sim h1).put j hj y
  exact (h0.trans h1).trans h2
def numOf : Value → Int | .int _ q => q | _ => 0

theorem isNaN_b (x : Int) (w : World) : Calls Try.prog 69 #[.int .u8 x] w fun e w' => e = .returned (.bool false) ∧ w' = w := by
  go_enter Try.func69, Try.ntmps69
  go_wp2
  go_ret
  exact ⟨by simp, rfl⟩
def lessB (x y : Int) : Bool := decide (x < y)
theorem less_b (x y : Int) (w : World) : Calls Try.prog 59 #[.int .u8 x, .int .u8 y] w fun e w' => e = .returned (.bool (lessB x y)) ∧ w' = w := by
  go_enter Try.func59, Try.ntmps59
  go_wp2_with (go_at_call 69; refine (isNaN_b _ _).mono ?_; rintro e w' ⟨rfl, rfl⟩)
  go_ret
  exact ⟨rfl, rfl⟩
set_option maxHeartbeats 2000000 in
set_option maxRecDepth 100000 in
theorem ins_b (ok : Nat → Prop) (g off n cap a b : Nat) (w : World) (hB : Bt ok w g off n) (hab : a ≤ b) (hb : b ≤ n) (hn : n < 4611686018427387904) :
    Calls Try.prog 53 #[.slice (some ⟨g, off, none⟩) n cap, .int .i64 a, .int .i64 b] w fun e w' => e = .returned (.tuple #[]) ∧ Sim ok w w' := by
  go_enter Try.func53, Try.ntmps53
  go_wp2
  go_loopw [6] (fun vi wr => ∃ i : Nat, vi = .int .i64 i ∧ a < i ∧ i ≤ b + 1 ∧ Aside0 (Sim ok w wr)) (fun vi _ => b + 1 - (numOf vi).toNat)
  case atStart => exact ⟨a + 1, by go_num, by omega, by omega, ⟨Sim.refl _ _⟩⟩
  case round =>
    obtain ⟨i, rfl, hai, hib, HS⟩ := hrel
    go_wp2
    · go_loopw [7] (fun vj wr2 => ∃ j : Nat, vj = .int .i64 j ∧ a ≤ j ∧ j ≤ i ∧ Aside0 (Sim ok w wr2)) (fun vj _ => (numOf vj).toNat)
      case atStart => exact ⟨i, rfl, by omega, Nat.le_refl _, HS⟩
      case round =>
        obtain ⟨j, rfl, haj, hji, HS2⟩ := hrel
        have hlt : i < b := by assumption
        have HBt := Aside0.mk (hB.sim HS2.out)
        obtain ⟨G, hcw, hfw⟩ := HBt.out.fam
        go_wp2
        by_cases hja : a < j
        · go_quiet (first | (go_at_call 59; refine Calls.quiet_of_same (less_b _ _ _)))
          go_wp2
          · go_region
            all_goals go_wp2
            go_roundw
            case rel => exact ⟨j - 1, by congr 1; omega, by omega, by omega, ⟨HS2.out.trans (by first | exact HBt.out.swap (by exact Sim.eqv rfl rfl rfl rfl) j (j - 1) (by omega) (by omega) _ _ | exact (HBt.out.swap (by exact Sim.eqv rfl rfl rfl rfl) j (j - 1) (by omega) (by omega) _ _).drew | exact (HBt.out.swap (by exact Sim.eqv rfl rfl rfl rfl) j (j - 1) (by omega) (by omega) _ _).drewN _)⟩⟩
            case measure => simp [numOf]; omega
          · go_roundw
            case rel => exact ⟨i + 1, by go_num, by omega, by omega, ⟨HS2.out.drewN _⟩⟩
            case measure => simp [numOf]; omega
        · go_quiet (first | (go_at_call 59; refine Calls.quiet_of_same (less_b _ _ _)))
          go_wp2
          go_roundw
          case rel => exact ⟨i + 1, by go_num, by omega, by omega, ⟨HS2.out.drewN _⟩⟩
          case measure => simp [numOf]; omega
    · go_end0
      exact ⟨rfl, HS.out⟩
set_option maxHeartbeats 2000000 in
set_option maxRecDepth 100000 in
theorem rev_b (ok : Nat → Prop) (g off n cap a b : Nat) (w : World) (hB : Bt ok w g off n) (hab : a ≤ b) (hb : b ≤ n) (hn : n < 4611686018427387904) :
    Calls Try.prog 57 #[.slice (some ⟨g, off, none⟩) n cap, .int .i64 a, .int .i64 b] w fun e w' => e = .returned (.tuple #[]) ∧ Sim ok w w' := by
  go_enter Try.func57, Try.ntmps57
  go_wp2
  go_loopw [6, 7] (fun vi vj wr => ∃ i j : Nat, vi = .int .i64 i ∧ vj = .int .i64 ((j : Int) - 1) ∧ a ≤ i ∧ j ≤ b ∧ Aside0 (Sim ok w wr)) (fun vi vj _ => (numOf vj + 1).toNat - (numOf vi).toNat)
  case atStart => exact ⟨a, b, rfl, by go_num, Nat.le_refl _, Nat.le_refl _, ⟨Sim.refl _ _⟩⟩
  case round =>
    obtain ⟨i, j, rfl, rfl, hai, hjb, HS⟩ := hrel
    have HBt := Aside0.mk (hB.sim HS.out)
    obtain ⟨G, hcw, hfw⟩ := HBt.out.fam
    by_cases hij : (i : Int) < (j : Int) - 1
    · obtain ⟨q, rfl⟩ : ∃ q, j = q + 1 := ⟨j - 1, by omega⟩
      have e1 : (((q + 1 : Nat) : Int) - 1) = (q : Int) := by omega
      rw [e1] at hij ⊢
      have d1 : decide ((i : Int) < (q : Int)) = true := decide_eq_true hij
      go_wp2
      go_region
      all_goals go_wp2
      go_roundw
      case rel => exact ⟨i + 1, q, by go_num, by go_num, by omega, by omega, ⟨HS.out.trans (by first | exact HBt.out.swap (by exact Sim.eqv rfl rfl rfl rfl) i q (by omega) (by omega) _ _ | exact (HBt.out.swap (by exact Sim.eqv rfl rfl rfl rfl) i q (by omega) (by omega) _ _).drew | exact (HBt.out.swap (by exact Sim.eqv rfl rfl rfl rfl) i q (by omega) (by omega) _ _).drewN _)⟩⟩
      case measure => simp [numOf]; omega
    · have d1 : decide ((i : Int) < (j : Int) - 1) = false := decide_eq_false hij
      go_wp2
      go_end0
      exact ⟨rfl, HS.out⟩
set_option maxHeartbeats 4000000 in
set_option maxRecDepth 100000 in
theorem sift_b (ok : Nat → Prop) (g off n cap lo hi first : Nat) (w : World) (hB : Bt ok w g off n) (hf : first + hi ≤ n) (hn : n < 4611686018427387904) (hlo : lo < 4611686018427387904) :
    Calls Try.prog 64 #[.slice (some ⟨g, off, none⟩) n cap, .int .i64 lo, .int .i64 hi, .int .i64 first] w fun e w' => e = .returned (.tuple #[]) ∧ Sim ok w w' := by
  go_enter Try.func64, Try.ntmps64
  go_wp2
  go_loopw [8] (fun vr wr => ∃ r : Nat, vr = .int .i64 r ∧ r < 4611686018427387904 ∧ Aside0 (Sim ok w wr)) (fun vr _ => hi - (numOf vr).toNat)
  case atStart => exact ⟨lo, rfl, hlo, ⟨Sim.refl _ _⟩⟩
  case round =>
    obtain ⟨r, rfl, hr, HS⟩ := hrel
    have HBt := Aside0.mk (hB.sim HS.out)
    obtain ⟨G, hcw, hfw⟩ := HBt.out.fam
    go_wp2
    · go_end0
      exact ⟨rfl, HS.out⟩
    · by_cases hc : 2 * r + 2 < hi
      · have h1z : 2 * (r : Int) + 1 + 1 < (hi : Int) := by omega
        go_wp2_with fail
        go_big_quiet (first | (go_at_call 59; refine Calls.quiet_of_same (less_b _ _ _)))
        go_wp2_with fail
        · skip
          have HBn := Aside0.mk (HBt.out.sim (show Sim ok wr (wr.drewN nq) from .eqv rfl rfl rfl rfl))
          have HSn := Aside0.mk (HS.out.drewN nq)
          clear hcw hfw HBt HS
          generalize wr.drewN nq = wr2 at HBn HSn ⊢
          clear nq
          have HBt := HBn
          have HS := HSn
          clear HBn HSn
          obtain ⟨G2, hcw, hfw⟩ := HBt.out.fam
          go_big_quiet (first | (go_at_call 59; refine Calls.quiet_of_same (less_b _ _ _)))
          go_wp2_with fail
          · (try simp only [Exit.inBlock, Exit.then])
            refine bodyPost_ret (results_none rfl _ _ _) rfl ?_
            exact ⟨rfl, HS.out.drewN _⟩
          · skip
            have HBn := Aside0.mk (HBt.out.sim (show Sim ok wr2 (wr2.drewN nq) from .eqv rfl rfl rfl rfl))
            have HSn := Aside0.mk (HS.out.drewN nq)
            clear hcw hfw HBt HS
            generalize wr2.drewN nq = wr3 at HBn HSn ⊢
            clear nq
            have HBt := HBn
            have HS := HSn
            clear HBn HSn
            obtain ⟨G3, hcw, hfw⟩ := HBt.out.fam
            go_region
            all_goals go_wp2
            go_roundw
            case rel => exact ⟨2 * r + 2, by go_num, by omega, ⟨HS.out.trans (by first | exact HBt.out.swap (by exact Sim.eqv rfl rfl rfl rfl) (first + r) (first + (2 * r + 2)) (by omega) (by omega) _ _ | exact (HBt.out.swap (by exact Sim.eqv rfl rfl rfl rfl) (first + r) (first + (2 * r + 2)) (by omega) (by omega) _ _).drew | exact (HBt.out.swap (by exact Sim.eqv rfl rfl rfl rfl) (first + r) (first + (2 * r + 2)) (by omega) (by omega) _ _).drewN _)⟩⟩
            case measure => simp [numOf]; omega
        · skip
          have HBn := Aside0.mk (HBt.out.sim (show Sim ok wr (wr.drewN nq) from .eqv rfl rfl rfl rfl))
          have HSn := Aside0.mk (HS.out.drewN nq)
          clear hcw hfw HBt HS
          generalize wr.drewN nq = wr2 at HBn HSn ⊢
          clear nq
          have HBt := HBn
          have HS := HSn
          clear HBn HSn
          obtain ⟨G2, hcw, hfw⟩ := HBt.out.fam
          go_big_quiet (first | (go_at_call 59; refine Calls.quiet_of_same (less_b _ _ _)))
          go_wp2_with fail
          · (try simp only [Exit.inBlock, Exit.then])
            refine bodyPost_ret (results_none rfl _ _ _) rfl ?_
            exact ⟨rfl, HS.out.drewN _⟩
          · skip
            have HBn := Aside0.mk (HBt.out.sim (show Sim ok wr2 (wr2.drewN nq) from .eqv rfl rfl rfl rfl))
            have HSn := Aside0.mk (HS.out.drewN nq)
            clear hcw hfw HBt HS
            generalize wr2.drewN nq = wr3 at HBn HSn ⊢
            clear nq
            have HBt := HBn
            have HS := HSn
            clear HBn HSn
            obtain ⟨G3, hcw, hfw⟩ := HBt.out.fam
            go_region
            all_goals go_wp2
            go_roundw
            case rel => exact ⟨2 * r + 1, by go_num, by omega, ⟨HS.out.trans (by first | exact HBt.out.swap (by exact Sim.eqv rfl rfl rfl rfl) (first + r) (first + (2 * r + 1)) (by omega) (by omega) _ _ | exact (HBt.out.swap (by exact Sim.eqv rfl rfl rfl rfl) (first + r) (first + (2 * r + 1)) (by omega) (by omega) _ _).drew | exact (HBt.out.swap (by exact Sim.eqv rfl rfl rfl rfl) (first + r) (first + (2 * r + 1)) (by omega) (by omega) _ _).drewN _)⟩⟩
            case measure => simp [numOf]; omega
      · have h1z : decide (2 * (r : Int) + 1 + 1 < (hi : Int)) = false := decide_eq_false (by omega)
        go_wp2_with fail
        go_big_quiet (first | (go_at_call 59; refine Calls.quiet_of_same (less_b _ _ _)))
        go_wp2_with fail
        have HBn := Aside0.mk (HBt.out.sim (show Sim ok wr (wr.drewN nq) from .eqv rfl rfl rfl rfl))
        have HSn := Aside0.mk (HS.out.drewN nq)
        clear hcw hfw HBt HS
        generalize wr.drewN nq = wr2 at HBn HSn ⊢
        clear nq
        have HBt := HBn
        have HS := HSn
        clear HBn HSn
        obtain ⟨G2, hcw, hfw⟩ := HBt.out.fam
        go_big_quiet (first | (go_at_call 59; refine Calls.quiet_of_same (less_b _ _ _)))
        go_wp2_with fail
        · (try simp only [Exit.inBlock, Exit.then])
          refine bodyPost_ret (results_none rfl _ _ _) rfl ?_
          exact ⟨rfl, HS.out.drewN _⟩
        · skip
          have HBn := Aside0.mk (HBt.out.sim (show Sim ok wr2 (wr2.drewN nq) from .eqv rfl rfl rfl rfl))
          have HSn := Aside0.mk (HS.out.drewN nq)
          clear hcw hfw HBt HS
          generalize wr2.drewN nq = wr3 at HBn HSn ⊢
          clear nq
          have HBt := HBn
          have HS := HSn
          clear HBn HSn
          obtain ⟨G3, hcw, hfw⟩ := HBt.out.fam
          go_region
          all_goals go_wp2
          go_roundw
          case rel => exact ⟨2 * r + 1, by go_num, by omega, ⟨HS.out.trans (by first | exact HBt.out.swap (by exact Sim.eqv rfl rfl rfl rfl) (first + r) (first + (2 * r + 1)) (by omega) (by omega) _ _ | exact (HBt.out.swap (by exact Sim.eqv rfl rfl rfl rfl) (first + r) (first + (2 * r + 1)) (by omega) (by omega) _ _).drew | exact (HBt.out.swap (by exact Sim.eqv rfl rfl rfl rfl) (first + r) (first + (2 * r + 1)) (by omega) (by omega) _ _).drewN _)⟩⟩
          case measure => simp [numOf]; omega
set_option maxHeartbeats 4000000 in
set_option maxRecDepth 100000 in
theorem heap_b (ok : Nat → Prop) (g off n cap a b : Nat) (w : World) (hB : Bt ok w g off n) (hab : a ≤ b) (hb : b ≤ n) (hn : n < 4611686018427387904) :
    Calls Try.prog 54 #[.slice (some ⟨g, off, none⟩) n cap, .int .i64 a, .int .i64 b] w fun e w' => e = .returned (.tuple #[]) ∧ Sim ok w w' := by
  have ecast : ((b - a : Nat) : Int) = (b : Int) - (a : Int) := by omega
  have hdiv : Int.tdiv ((b : Int) - (a : Int) - 1) 2 = (((b - a - 1) / 2 : Nat) : Int) := by
    by_cases h : a = b
    · subst h
      rw [show (a : Int) - a - 1 = -1 from by omega, show a - a - 1 = 0 from by omega]
      decide
    · rw [Int.tdiv_eq_ediv_of_nonneg (by omega)]
      omega
  go_enter Try.func54, Try.ntmps54
  go_wp2
  go_loopg [9] ((b - a - 1) / 2 + 1) (fun k v wr => v = .int .i64 ((k : Int) - 1) ∧ k ≤ n + 1 ∧ Aside0 (Sim ok w wr))
  case atStart => exact ⟨by congr 1; omega, by omega, ⟨Sim.refl _ _⟩⟩
  case round =>
    obtain ⟨rfl, hk, HS⟩ := hrel
    cases gk with
    | zero =>
      go_wp2
      go_loopg [10] (b - a) (fun k v wr2 => v = .int .i64 ((k : Int) - 1) ∧ k ≤ b - a ∧ Aside0 (Sim ok w wr2))
      case atStart => exact ⟨by rw [ecast], Nat.le_refl _, HS⟩
      case round =>
        obtain ⟨rfl, hk, HS⟩ := hrel
        cases gk with
        | zero =>
          go_wp2
          go_end0
          exact ⟨rfl, HS.out⟩
        | succ k =>
          have HBt := Aside0.mk (hB.sim HS.out)
          obtain ⟨G, hcw, hfw⟩ := HBt.out.fam
          rw [show (((k + 1 : Nat) : Int) - 1) = (k : Int) from by omega]
          rcases Nat.eq_zero_or_pos k with hk0 | hkp
          · subst hk0
            go_wp2_with fail
            go_region
            all_goals (
              go_wp2_with fail
              refine (sift_b ok g off n cap 0 0 a _ (HBt.out.sim (by first | exact HBt.out.swap (by exact Sim.eqv rfl rfl rfl rfl) a a (by omega) (by omega) _ _ | exact (HBt.out.swap (by exact Sim.eqv rfl rfl rfl rfl) a a (by omega) (by omega) _ _).drew | exact (HBt.out.swap (by exact Sim.eqv rfl rfl rfl rfl) a a (by omega) (by omega) _ _).drewN _)) (by omega) hn (by omega)).mono ?_
              rintro e w1 ⟨rfl, hs1⟩
              go_wp2
              go_roundg 0
              case rel => exact ⟨by first | rfl | (congr 1; omega), by omega, ⟨HS.out.trans ((show Sim ok wr _ from (by first | exact HBt.out.swap (by exact Sim.eqv rfl rfl rfl rfl) a a (by omega) (by omega) _ _ | exact (HBt.out.swap (by exact Sim.eqv rfl rfl rfl rfl) a a (by omega) (by omega) _ _).drew | exact (HBt.out.swap (by exact Sim.eqv rfl rfl rfl rfl) a a (by omega) (by omega) _ _).drewN _)).trans hs1)⟩⟩
              case measure => omega)
          · skip
            go_wp2_with fail
            go_region
            all_goals (
              go_wp2_with fail
              refine (sift_b ok g off n cap 0 k a _ (HBt.out.sim (by first | exact HBt.out.swap (by exact Sim.eqv rfl rfl rfl rfl) a (a + k) (by omega) (by omega) _ _ | exact (HBt.out.swap (by exact Sim.eqv rfl rfl rfl rfl) a (a + k) (by omega) (by omega) _ _).drew | exact (HBt.out.swap (by exact Sim.eqv rfl rfl rfl rfl) a (a + k) (by omega) (by omega) _ _).drewN _)) (by omega) hn (by omega)).mono ?_
              rintro e w1 ⟨rfl, hs1⟩
              go_wp2
              go_roundg k
              case rel => exact ⟨by first | rfl | (congr 1; omega), by omega, ⟨HS.out.trans ((show Sim ok wr _ from (by first | exact HBt.out.swap (by exact Sim.eqv rfl rfl rfl rfl) a (a + k) (by omega) (by omega) _ _ | exact (HBt.out.swap (by exact Sim.eqv rfl rfl rfl rfl) a (a + k) (by omega) (by omega) _ _).drew | exact (HBt.out.swap (by exact Sim.eqv rfl rfl rfl rfl) a (a + k) (by omega) (by omega) _ _).drewN _)).trans hs1)⟩⟩
              case measure => omega)
    | succ k =>
      have HBt := Aside0.mk (hB.sim HS.out)
      rw [show (((k + 1 : Nat) : Int) - 1) = (k : Int) from by omega]
      have hcall := sift_b ok g off n cap k (b - a) a wr HBt.out (by omega) hn (by omega)
      rw [ecast] at hcall
      have HCALL := Aside0.mk hcall
      clear hcall
      go_wp2_with (go_at_call 64; refine HCALL.out.mono ?_; rintro e w1 ⟨rfl, hs1⟩; have HS1 := Aside0.mk (HS.out.trans hs1); clear hs1)
      go_roundg k
      case rel => exact ⟨by first | rfl | (congr 1; omega), by omega, HS1⟩
      case measure => omega
set_option maxHeartbeats 8000000 in
set_option maxRecDepth 100000 in
theorem peq_b (ok : Nat → Prop) (g off n cap a b pivot : Nat) (w : World) (hB : Bt ok w g off n) (hap : a ≤ pivot) (hpb : pivot < b) (hb : b ≤ n) (hn : n < 4611686018427387904) :
    Calls Try.prog 60 #[.slice (some ⟨g, off, none⟩) n cap, .int .i64 a, .int .i64 b, .int .i64 pivot] w fun e w' => ∃ m : Nat, e = .returned (.int .i64 m) ∧ a < m ∧ m ≤ b ∧ Sim ok w w' := by
  go_enter Try.func60, Try.ntmps60
  have HS := Aside0.mk (Sim.refl ok w)
  go_wp2
  go_cut [] (fun wd => Aside0 (Sim ok w wd))
  case first =>
    have HBt := Aside0.mk (hB.sim HS.out)
    obtain ⟨G, hcw, hfw⟩ := HBt.out.fam
    by_cases hsame : a = pivot
    · subst hsame
      go_region
      all_goals (
        go_wp2
        go_meet
        case rel => exact ⟨HS.out.trans (by first | exact HBt.out.swap (by exact Sim.eqv rfl rfl rfl rfl) a a (by omega) (by omega) _ _ | exact (HBt.out.swap (by exact Sim.eqv rfl rfl rfl rfl) a a (by omega) (by omega) _ _).drew | exact (HBt.out.swap (by exact Sim.eqv rfl rfl rfl rfl) a a (by omega) (by omega) _ _).drewN _)⟩)
    · go_region
      all_goals (
        go_wp2
        go_meet
        case rel => exact ⟨HS.out.trans (by first | exact HBt.out.swap (by exact Sim.eqv rfl rfl rfl rfl) a pivot (by omega) (by omega) _ _ | exact (HBt.out.swap (by exact Sim.eqv rfl rfl rfl rfl) a pivot (by omega) (by omega) _ _).drew | exact (HBt.out.swap (by exact Sim.eqv rfl rfl rfl rfl) a pivot (by omega) (by omega) _ _).drewN _)⟩)
  case rest =>
  clear HS
  have HS := hcut
  clear hcut
  go_wp2
  go_loopg [9, 10] (b - a) (fun m vi vj wr => ∃ i j : Nat, vi = .int .i64 i ∧ vj = .int .i64 j ∧ a < i ∧ i ≤ b ∧ a ≤ j ∧ j < b ∧ i ≤ j + 2 ∧ m = j + 2 - i ∧ Aside0 (Sim ok w wr))
  case atStart => exact ⟨a + 1, b - 1, by first | rfl | (congr 1; omega), by congr 1; omega, by omega, by omega, by omega, by omega, by omega, by omega, HS⟩
  case round =>
    clear HS
    obtain ⟨i0, j0, rfl, rfl, b1, b2, b3, b4, b5, hm, HS⟩ := hrel
    refine wp_block ?_
    refine wp_seq_k (fun K_ hK_ => ?_)
    go_cut [9] (fun vi wd => ∃ i : Nat, vi = .int .i64 i ∧ i0 ≤ i ∧ (i = i0 ∨ i ≤ j0 + 1) ∧ Aside0 (Sim ok w wd))
    case first =>
      clear hK_ K_
      go_wp2
      go_loopg [9] (j0 + 2 - i0) (fun m vi wd => ∃ i : Nat, vi = .int .i64 i ∧ i0 ≤ i ∧ (i = i0 ∨ i ≤ j0 + 1) ∧ m = j0 + 2 - i ∧ Aside0 (Sim ok w wd))
      case atStart => exact ⟨i0, rfl, Nat.le_refl _, .inl rfl, rfl, HS⟩
      case round =>
        obtain ⟨i, rfl, hi0, hij0, hm, HS⟩ := hrel
        have HBt := Aside0.mk (hB.sim HS.out)
        obtain ⟨G, hcw, hfw⟩ := HBt.out.fam
        by_cases hij : i ≤ j0
        · have h1z : (i : Int) ≤ (j0 : Int) := by omega
          go_wp2_with fail
          go_big_quiet (first | (go_at_call 59; refine Calls.quiet_of_same (less_b _ _ _)))
          go_wp2_with fail
          · go_wp2
            go_roundg (j0 + 2 - (i + 1))
            case measure => omega
            case rel => exact ⟨i + 1, by first | rfl | (congr 1; omega), by omega, .inr (by omega), rfl, ⟨HS.out.drewN _⟩⟩
          · go_meet
            case rel => exact ⟨i, rfl, hi0, hij0, ⟨HS.out.drewN _⟩⟩
        · have h1z : decide ((i : Int) ≤ (j0 : Int)) = false := decide_eq_false (by omega)
          go_wp2_with fail
          go_big_quiet (first | (go_at_call 59; refine Calls.quiet_of_same (less_b _ _ _)))
          go_wp2_with fail
          go_meet
          case rel => exact ⟨i, rfl, hi0, hij0, ⟨HS.out.drewN _⟩⟩
    case rest =>
    clear HS
    obtain ⟨i1, rfl, hup_i1, huq_i1, HS⟩ := hcut
    refine hK_ _ _ ?_
    clear hK_ K_
    refine wp_seq_k (fun K_ hK_ => ?_)
    go_cut [10] (fun vj wd => ∃ j : Nat, vj = .int .i64 j ∧ j ≤ j0 ∧ (j = j0 ∨ i1 ≤ j + 1) ∧ Aside0 (Sim ok w wd))
    case first =>
      clear hK_ K_
      go_wp2
      go_loopg [10] (j0 + 1) (fun m vj wd => ∃ j : Nat, vj = .int .i64 j ∧ j ≤ j0 ∧ (j = j0 ∨ i1 ≤ j + 1) ∧ m = j + 1 ∧ Aside0 (Sim ok w wd))
      case atStart => exact ⟨j0, rfl, Nat.le_refl _, .inl rfl, rfl, HS⟩
      case round =>
        obtain ⟨j, rfl, hj0, hji0, hm, HS⟩ := hrel
        have HBt := Aside0.mk (hB.sim HS.out)
        obtain ⟨G, hcw, hfw⟩ := HBt.out.fam
        by_cases hij : i1 ≤ j
        · have h1z : (i1 : Int) ≤ (j : Int) := by omega
          go_wp2_with fail
          go_big_quiet (first | (go_at_call 59; refine Calls.quiet_of_same (less_b _ _ _)))
          go_wp2_with fail
          · go_wp2
            go_roundg j
            case measure => omega
            case rel => exact ⟨j - 1, by first | rfl | (congr 1; omega), by omega, .inr (by omega), by omega, ⟨HS.out.drewN _⟩⟩
          · go_meet
            case rel => exact ⟨j, rfl, hj0, hji0, ⟨HS.out.drewN _⟩⟩
        · have h1z : decide ((i1 : Int) ≤ (j : Int)) = false := decide_eq_false (by omega)
          go_wp2_with fail
          go_big_quiet (first | (go_at_call 59; refine Calls.quiet_of_same (less_b _ _ _)))
          go_wp2_with fail
          go_meet
          case rel => exact ⟨j, rfl, hj0, hji0, ⟨HS.out.drewN _⟩⟩
    case rest =>
    clear HS
    obtain ⟨j1, rfl, hdn_j1, hdq_j1, HS⟩ := hcut
    refine hK_ _ _ ?_
    clear hK_ K_
    go_wp2
    · go_ret
      exact ⟨i1, rfl, by omega, by omega, HS.out⟩
    · have HBt := Aside0.mk (hB.sim HS.out)
      obtain ⟨G, hcw, hfw⟩ := HBt.out.fam
      have hle : i1 ≤ j1 := by omega
      by_cases hsame : i1 = j1
      · subst hsame
        go_region
        all_goals (
          go_wp2
          go_roundg (i1 - 1 + 2 - (i1 + 1))
          case measure => omega
          case rel => exact ⟨i1 + 1, i1 - 1, by first | rfl | (congr 1; omega), by first | rfl | (congr 1; omega), by omega, by omega, by omega, by omega, by omega, by omega, ⟨HS.out.trans (by first | exact HBt.out.swap (by exact Sim.eqv rfl rfl rfl rfl) i1 i1 (by omega) (by omega) _ _ | exact (HBt.out.swap (by exact Sim.eqv rfl rfl rfl rfl) i1 i1 (by omega) (by omega) _ _).drew | exact (HBt.out.swap (by exact Sim.eqv rfl rfl rfl rfl) i1 i1 (by omega) (by omega) _ _).drewN _)⟩⟩)
      · go_region
        all_goals (
          go_wp2
          go_roundg (j1 - 1 + 2 - (i1 + 1))
          case measure => omega
          case rel => exact ⟨i1 + 1, j1 - 1, by first | rfl | (congr 1; omega), by first | rfl | (congr 1; omega), by omega, by omega, by omega, by omega, by omega, by omega, ⟨HS.out.trans (by first | exact HBt.out.swap (by exact Sim.eqv rfl rfl rfl rfl) i1 j1 (by omega) (by omega) _ _ | exact (HBt.out.swap (by exact Sim.eqv rfl rfl rfl rfl) i1 j1 (by omega) (by omega) _ _).drew | exact (HBt.out.swap (by exact Sim.eqv rfl rfl rfl rfl) i1 j1 (by omega) (by omega) _ _).drewN _)⟩⟩)

set_option maxHeartbeats 8000000 in
set_option maxRecDepth 100000 in
theorem prt_b (ok : Nat → Prop) (g off n cap a b pivot : Nat) (w : World) (hB : Bt ok w g off n) (hap : a ≤ pivot) (hpb : pivot < b) (hb : b ≤ n) (hn : n < 4611686018427387904) :
    Calls Try.prog 61 #[.slice (some ⟨g, off, none⟩) n cap, .int .i64 a, .int .i64 b, .int .i64 pivot] w fun e w' => ∃ m : Nat, (∃ q : Bool, e = .returned (.tuple #[.int .i64 m, .bool q])) ∧ a ≤ m ∧ m < b ∧ Sim ok w w' := by
  go_enter Try.func61, Try.ntmps61
  have HS := Aside0.mk (Sim.refl ok w)
  go_wp2
  go_cut [] (fun wd => Aside0 (Sim ok w wd))
  case first =>
    have HBt := Aside0.mk (hB.sim HS.out)
    obtain ⟨G, hcw, hfw⟩ := HBt.out.fam
    by_cases hsame : a = pivot
    · subst hsame
      go_region
      all_goals (
        go_wp2
        go_meet
        case rel => exact ⟨HS.out.trans (by first | exact HBt.out.swap (by exact Sim.eqv rfl rfl rfl rfl) a a (by omega) (by omega) _ _ | exact (HBt.out.swap (by exact Sim.eqv rfl rfl rfl rfl) a a (by omega) (by omega) _ _).drew | exact (HBt.out.swap (by exact Sim.eqv rfl rfl rfl rfl) a a (by omega) (by omega) _ _).drewN _)⟩)
    · go_region
      all_goals (
        go_wp2
        go_meet
        case rel => exact ⟨HS.out.trans (by first | exact HBt.out.swap (by exact Sim.eqv rfl rfl rfl rfl) a pivot (by omega) (by omega) _ _ | exact (HBt.out.swap (by exact Sim.eqv rfl rfl rfl rfl) a pivot (by omega) (by omega) _ _).drew | exact (HBt.out.swap (by exact Sim.eqv rfl rfl rfl rfl) a pivot (by omega) (by omega) _ _).drewN _)⟩)
  case rest =>
  clear HS
  have HS := hcut
  clear hcut
  refine (‹∀ (a : Act) (w : World), Code.wp Try.prog (Code.seq (Code.region 2 _ _) _) _ a w → _›) _ _ ?_
  refine wp_seq_k (fun K2 hK2 => ?_)
  go_cut [10, 11] (fun vi vj wd => ∃ i j : Nat, vi = .int .i64 i ∧ vj = .int .i64 j ∧ i = a + 1 ∧ j + 1 = b ∧ Aside0 (Sim ok w wd))
  case first =>
    go_wp2
    go_meet
    case rel => exact ⟨a + 1, b - 1, by first | rfl | (congr 1; omega), by congr 1; omega, rfl, by omega, HS⟩
  case rest =>
  clear HS
  obtain ⟨i0, j0, rfl, rfl, hi0, hj0, HS⟩ := hcut
  refine hK2 _ _ ?_
  clear hK2 K2
  refine wp_seq_k (fun K_ hK_ => ?_)
  go_cut [10] (fun vi wd => ∃ i : Nat, vi = .int .i64 i ∧ i0 ≤ i ∧ (i = i0 ∨ i ≤ j0 + 1) ∧ Aside0 (Sim ok w wd))
  case first =>
    clear hK_ K_
    go_wp2
    go_loopg [10] (j0 + 2 - i0) (fun m vi wd => ∃ i : Nat, vi = .int .i64 i ∧ i0 ≤ i ∧ (i = i0 ∨ i ≤ j0 + 1) ∧ m = j0 + 2 - i ∧ Aside0 (Sim ok w wd))
    case atStart => exact ⟨i0, rfl, Nat.le_refl _, .inl rfl, rfl, HS⟩
    case round =>
      obtain ⟨i, rfl, hi0, hij0, hm, HS⟩ := hrel
      have HBt := Aside0.mk (hB.sim HS.out)
      obtain ⟨G, hcw, hfw⟩ := HBt.out.fam
      by_cases hij : i ≤ j0
      · have h1z : (i : Int) ≤ (j0 : Int) := by omega
        go_wp2_with fail
        go_big_quiet (first | (go_at_call 59; refine Calls.quiet_of_same (less_b _ _ _)))
        go_wp2_with fail
        · go_wp2
          go_roundg (j0 + 2 - (i + 1))
          case measure => omega
          case rel => exact ⟨i + 1, by first | rfl | (congr 1; omega), by omega, .inr (by omega), rfl, ⟨HS.out.drewN _⟩⟩
        · go_meet
          case rel => exact ⟨i, rfl, hi0, hij0, ⟨HS.out.drewN _⟩⟩
      · have h1z : decide ((i : Int) ≤ (j0 : Int)) = false := decide_eq_false (by omega)
        go_wp2_with fail
        go_big_quiet (first | (go_at_call 59; refine Calls.quiet_of_same (less_b _ _ _)))
        go_wp2_with fail
        go_meet
        case rel => exact ⟨i, rfl, hi0, hij0, ⟨HS.out.drewN _⟩⟩
  case rest =>
  clear HS
  obtain ⟨i1, rfl, hup_i1, huq_i1, HS⟩ := hcut
  refine hK_ _ _ ?_
  clear hK_ K_
  refine wp_seq_k (fun K_ hK_ => ?_)
  go_cut [11] (fun vj wd => ∃ j : Nat, vj = .int .i64 j ∧ j ≤ j0 ∧ (j = j0 ∨ i1 ≤ j + 1) ∧ Aside0 (Sim ok w wd))
  case first =>
    clear hK_ K_
    go_wp2
    go_loopg [11] (j0 + 1) (fun m vj wd => ∃ j : Nat, vj = .int .i64 j ∧ j ≤ j0 ∧ (j = j0 ∨ i1 ≤ j + 1) ∧ m = j + 1 ∧ Aside0 (Sim ok w wd))
    case atStart => exact ⟨j0, rfl, Nat.le_refl _, .inl rfl, rfl, HS⟩
    case round =>
      obtain ⟨j, rfl, hj0, hji0, hm, HS⟩ := hrel
      have HBt := Aside0.mk (hB.sim HS.out)
      obtain ⟨G, hcw, hfw⟩ := HBt.out.fam
      by_cases hij : i1 ≤ j
      · have h1z : (i1 : Int) ≤ (j : Int) := by omega
        go_wp2_with fail
        go_big_quiet (first | (go_at_call 59; refine Calls.quiet_of_same (less_b _ _ _)))
        go_wp2_with fail
        · go_wp2
          go_roundg j
          case measure => omega
          case rel => exact ⟨j - 1, by first | rfl | (congr 1; omega), by omega, .inr (by omega), by omega, ⟨HS.out.drewN _⟩⟩
        · go_meet
          case rel => exact ⟨j, rfl, hj0, hji0, ⟨HS.out.drewN _⟩⟩
      · have h1z : decide ((i1 : Int) ≤ (j : Int)) = false := decide_eq_false (by omega)
        go_wp2_with fail
        go_big_quiet (first | (go_at_call 59; refine Calls.quiet_of_same (less_b _ _ _)))
        go_wp2_with fail
        go_meet
        case rel => exact ⟨j, rfl, hj0, hji0, ⟨HS.out.drewN _⟩⟩
  case rest =>
  clear HS
  obtain ⟨j1, rfl, hdn_j1, hdq_j1, HS⟩ := hcut
  refine hK_ _ _ ?_
  clear hK_ K_
  go_wp2
  · skip
    have HBt := Aside0.mk (hB.sim HS.out)
    obtain ⟨G, hcw, hfw⟩ := HBt.out.fam
    by_cases hsame : j1 = a
    · subst hsame
      go_region
      all_goals (
        go_wp2
        go_ret2
        exact ⟨j1, ⟨_, rfl⟩, by omega, by omega, HS.out.trans (by first | exact HBt.out.swap (by exact Sim.eqv rfl rfl rfl rfl) j1 j1 (by omega) (by omega) _ _ | exact (HBt.out.swap (by exact Sim.eqv rfl rfl rfl rfl) j1 j1 (by omega) (by omega) _ _).drew | exact (HBt.out.swap (by exact Sim.eqv rfl rfl rfl rfl) j1 j1 (by omega) (by omega) _ _).drewN _)⟩)
    · go_region
      all_goals (
        go_wp2
        go_ret2
        exact ⟨j1, ⟨_, rfl⟩, by omega, by omega, HS.out.trans (by first | exact HBt.out.swap (by exact Sim.eqv rfl rfl rfl rfl) j1 a (by omega) (by omega) _ _ | exact (HBt.out.swap (by exact Sim.eqv rfl rfl rfl rfl) j1 a (by omega) (by omega) _ _).drew | exact (HBt.out.swap (by exact Sim.eqv rfl rfl rfl rfl) j1 a (by omega) (by omega) _ _).drewN _)⟩)
  · skip
    have hle : i1 ≤ j1 := by omega
    go_cut [] (fun wd => Aside0 (Sim ok w wd))
    case first =>
      have HBt := Aside0.mk (hB.sim HS.out)
      obtain ⟨G, hcw, hfw⟩ := HBt.out.fam
      by_cases hsame : i1 = j1
      · subst hsame
        go_region
        all_goals (
          go_wp2
          go_meet
          case rel => exact ⟨HS.out.trans (by first | exact HBt.out.swap (by exact Sim.eqv rfl rfl rfl rfl) i1 i1 (by omega) (by omega) _ _ | exact (HBt.out.swap (by exact Sim.eqv rfl rfl rfl rfl) i1 i1 (by omega) (by omega) _ _).drew | exact (HBt.out.swap (by exact Sim.eqv rfl rfl rfl rfl) i1 i1 (by omega) (by omega) _ _).drewN _)⟩)
      · go_region
        all_goals (
          go_wp2
          go_meet
          case rel => exact ⟨HS.out.trans (by first | exact HBt.out.swap (by exact Sim.eqv rfl rfl rfl rfl) i1 j1 (by omega) (by omega) _ _ | exact (HBt.out.swap (by exact Sim.eqv rfl rfl rfl rfl) i1 j1 (by omega) (by omega) _ _).drew | exact (HBt.out.swap (by exact Sim.eqv rfl rfl rfl rfl) i1 j1 (by omega) (by omega) _ _).drewN _)⟩)
    case rest =>
    clear HS
    have HS := hcut
    clear hcut
    go_wp2
    go_loopg [10, 11] (j1 - 1 + 2 - (i1 + 1)) (fun m vi vj wr => ∃ i j : Nat, vi = .int .i64 i ∧ vj = .int .i64 j ∧ a < i ∧ i ≤ b ∧ a ≤ j ∧ j < b ∧ i ≤ j + 2 ∧ m = j + 2 - i ∧ Aside0 (Sim ok w wr))
    case atStart => exact ⟨i1 + 1, j1 - 1, by first | rfl | (congr 1; omega), by first | rfl | (congr 1; omega), by omega, by omega, by omega, by omega, by omega, by omega, HS⟩
    case round =>
      clear HS hup_i1 huq_i1 hdn_j1 hdq_j1
      obtain ⟨i2, j2, rfl, rfl, b1, b2, b3, b4, b5, hm, HS⟩ := hrel
      refine wp_block ?_
      refine wp_seq_k (fun K_ hK_ => ?_)
      go_cut [10] (fun vi wd => ∃ i : Nat, vi = .int .i64 i ∧ i2 ≤ i ∧ (i = i2 ∨ i ≤ j2 + 1) ∧ Aside0 (Sim ok w wd))
      case first =>
        clear hK_ K_
        go_wp2
        go_loopg [10] (j2 + 2 - i2) (fun m vi wd => ∃ i : Nat, vi = .int .i64 i ∧ i2 ≤ i ∧ (i = i2 ∨ i ≤ j2 + 1) ∧ m = j2 + 2 - i ∧ Aside0 (Sim ok w wd))
        case atStart => exact ⟨i2, rfl, Nat.le_refl _, .inl rfl, rfl, HS⟩
        case round =>
          obtain ⟨i, rfl, hi0, hij0, hm, HS⟩ := hrel
          have HBt := Aside0.mk (hB.sim HS.out)
          obtain ⟨G, hcw, hfw⟩ := HBt.out.fam
          by_cases hij : i ≤ j2
          · have h1z : (i : Int) ≤ (j2 : Int) := by omega
            go_wp2_with fail
            go_big_quiet (first | (go_at_call 59; refine Calls.quiet_of_same (less_b _ _ _)))
            go_wp2_with fail
            · go_wp2
              go_roundg (j2 + 2 - (i + 1))
              case measure => omega
              case rel => exact ⟨i + 1, by first | rfl | (congr 1; omega), by omega, .inr (by omega), rfl, ⟨HS.out.drewN _⟩⟩
            · go_meet
              case rel => exact ⟨i, rfl, hi0, hij0, ⟨HS.out.drewN _⟩⟩
          · have h1z : decide ((i : Int) ≤ (j2 : Int)) = false := decide_eq_false (by omega)
            go_wp2_with fail
            go_big_quiet (first | (go_at_call 59; refine Calls.quiet_of_same (less_b _ _ _)))
            go_wp2_with fail
            go_meet
            case rel => exact ⟨i, rfl, hi0, hij0, ⟨HS.out.drewN _⟩⟩
      case rest =>
      clear HS
      obtain ⟨i3, rfl, hup_i3, huq_i3, HS⟩ := hcut
      refine hK_ _ _ ?_
      clear hK_ K_
      refine wp_seq_k (fun K_ hK_ => ?_)
      go_cut [11] (fun vj wd => ∃ j : Nat, vj = .int .i64 j ∧ j ≤ j2 ∧ (j = j2 ∨ i3 ≤ j + 1) ∧ Aside0 (Sim ok w wd))
      case first =>
        clear hK_ K_
        go_wp2
        go_loopg [11] (j2 + 1) (fun m vj wd => ∃ j : Nat, vj = .int .i64 j ∧ j ≤ j2 ∧ (j = j2 ∨ i3 ≤ j + 1) ∧ m = j + 1 ∧ Aside0 (Sim ok w wd))
        case atStart => exact ⟨j2, rfl, Nat.le_refl _, .inl rfl, rfl, HS⟩
        case round =>
          obtain ⟨j, rfl, hj0, hji0, hm, HS⟩ := hrel
          have HBt := Aside0.mk (hB.sim HS.out)
          obtain ⟨G, hcw, hfw⟩ := HBt.out.fam
          by_cases hij : i3 ≤ j
          · have h1z : (i3 : Int) ≤ (j : Int) := by omega
            go_wp2_with fail
            go_big_quiet (first | (go_at_call 59; refine Calls.quiet_of_same (less_b _ _ _)))
            go_wp2_with fail
            · go_wp2
              go_roundg j
              case measure => omega
              case rel => exact ⟨j - 1, by first | rfl | (congr 1; omega), by omega, .inr (by omega), by omega, ⟨HS.out.drewN _⟩⟩
            · go_meet
              case rel => exact ⟨j, rfl, hj0, hji0, ⟨HS.out.drewN _⟩⟩
          · have h1z : decide ((i3 : Int) ≤ (j : Int)) = false := decide_eq_false (by omega)
            go_wp2_with fail
            go_big_quiet (first | (go_at_call 59; refine Calls.quiet_of_same (less_b _ _ _)))
            go_wp2_with fail
            go_meet
            case rel => exact ⟨j, rfl, hj0, hji0, ⟨HS.out.drewN _⟩⟩
      case rest =>
      clear HS
      obtain ⟨j3, rfl, hdn_j3, hdq_j3, HS⟩ := hcut
      refine hK_ _ _ ?_
      clear hK_ K_
      go_wp2
      · skip
        have HBt := Aside0.mk (hB.sim HS.out)
        obtain ⟨G, hcw, hfw⟩ := HBt.out.fam
        by_cases hsame : j3 = a
        · subst hsame
          go_region
          all_goals (
            go_wp2
            go_ret2
            exact ⟨j3, ⟨_, rfl⟩, by omega, by omega, HS.out.trans (by first | exact HBt.out.swap (by exact Sim.eqv rfl rfl rfl rfl) j3 j3 (by omega) (by omega) _ _ | exact (HBt.out.swap (by exact Sim.eqv rfl rfl rfl rfl) j3 j3 (by omega) (by omega) _ _).drew | exact (HBt.out.swap (by exact Sim.eqv rfl rfl rfl rfl) j3 j3 (by omega) (by omega) _ _).drewN _)⟩)
        · go_region
          all_goals (
            go_wp2
            go_ret2
            exact ⟨j3, ⟨_, rfl⟩, by omega, by omega, HS.out.trans (by first | exact HBt.out.swap (by exact Sim.eqv rfl rfl rfl rfl) j3 a (by omega) (by omega) _ _ | exact (HBt.out.swap (by exact Sim.eqv rfl rfl rfl rfl) j3 a (by omega) (by omega) _ _).drew | exact (HBt.out.swap (by exact Sim.eqv rfl rfl rfl rfl) j3 a (by omega) (by omega) _ _).drewN _)⟩)
      · skip
        have HBt := Aside0.mk (hB.sim HS.out)
        obtain ⟨G, hcw, hfw⟩ := HBt.out.fam
        have hle : i3 ≤ j3 := by omega
        by_cases hsame : i3 = j3
        · subst hsame
          go_region
          all_goals (
            go_wp2
            go_roundg (i3 - 1 + 2 - (i3 + 1))
            case measure => omega
            case rel => exact ⟨i3 + 1, i3 - 1, by first | rfl | (congr 1; omega), by first | rfl | (congr 1; omega), by omega, by omega, by omega, by omega, by omega, by omega, ⟨HS.out.trans (by first | exact HBt.out.swap (by exact Sim.eqv rfl rfl rfl rfl) i3 i3 (by omega) (by omega) _ _ | exact (HBt.out.swap (by exact Sim.eqv rfl rfl rfl rfl) i3 i3 (by omega) (by omega) _ _).drew | exact (HBt.out.swap (by exact Sim.eqv rfl rfl rfl rfl) i3 i3 (by omega) (by omega) _ _).drewN _)⟩⟩)
        · go_region
          all_goals (
            go_wp2
            go_roundg (j3 - 1 + 2 - (i3 + 1))
            case measure => omega
            case rel => exact ⟨i3 + 1, j3 - 1, by first | rfl | (congr 1; omega), by first | rfl | (congr 1; omega), by omega, by omega, by omega, by omega, by omega, by omega, ⟨HS.out.trans (by first | exact HBt.out.swap (by exact Sim.eqv rfl rfl rfl rfl) i3 j3 (by omega) (by omega) _ _ | exact (HBt.out.swap (by exact Sim.eqv rfl rfl rfl rfl) i3 j3 (by omega) (by omega) _ _).drew | exact (HBt.out.swap (by exact Sim.eqv rfl rfl rfl rfl) i3 j3 (by omega) (by omega) _ _).drewN _)⟩⟩)

set_option maxHeartbeats 8000000 in
set_option maxRecDepth 100000 in
theorem par_b (ok : Nat → Prop) (g off n cap a b : Nat) (w : World) (hB : Bt ok w g off n) (hab : a < b) (hb : b ≤ n) (hn : n < 4611686018427387904) :
    Calls Try.prog 58 #[.slice (some ⟨g, off, none⟩) n cap, .int .i64 a, .int .i64 b] w fun e w' => (∃ q : Bool, e = .returned (.bool q)) ∧ Sim ok w w' := by
  go_enter Try.func58, Try.ntmps58
  go_wp2
  go_loopg [7, 8] 5 (fun m vi vj wr => ∃ i j : Nat, vi = .int .i64 i ∧ vj = .int .i64 j ∧ a < i ∧ i ≤ b ∧ j ≤ 5 ∧ m = 5 - j ∧ Aside0 (Sim ok w wr))
  case atStart => exact ⟨a + 1, 0, by first | rfl | (congr 1; omega), rfl, by omega, by omega, by omega, rfl, ⟨Sim.refl _ _⟩⟩
  case round =>
    obtain ⟨i0, jo, rfl, rfl, hi1, hi2, hj5, hm, HS⟩ := hrel
    by_cases hj : jo < 5
    case neg =>
      have h1z : decide ((jo : Int) < 5) = false := decide_eq_false (by omega)
      go_wp2
      go_ret
      exact ⟨⟨_, rfl⟩, HS.out⟩
    have h1z : (jo : Int) < 5 := by omega
    refine wp_seq_k (fun KA hKA => ?_)
    go_cut [] (fun wd => Aside0 (Sim ok w wd))
    case first =>
      clear hKA KA
      go_wp2
      go_meet
      case rel => exact HS
    case rest =>
    clear HS
    have HS := hcut
    clear hcut
    refine hKA _ _ ?_
    refine wp_seq_k (fun KB hKB => ?_)
    refine wp_block ?_
    refine wp_seq_k (fun KC hKC => ?_)
    go_cut [7] (fun vi wd => ∃ i : Nat, vi = .int .i64 i ∧ i0 ≤ i ∧ i ≤ b ∧ Aside0 (Sim ok w wd))
    case first =>
      clear hKC KC
      go_wp2
      go_loopg [7] (b - i0) (fun m vi wd => ∃ i : Nat, vi = .int .i64 i ∧ i0 ≤ i ∧ i ≤ b ∧ m = b - i ∧ Aside0 (Sim ok w wd))
      case atStart => exact ⟨i0, rfl, Nat.le_refl _, hi2, rfl, HS⟩
      case round =>
        obtain ⟨i, rfl, hi3, hi4, hmi, HS⟩ := hrel
        have HBt := Aside0.mk (hB.sim HS.out)
        obtain ⟨G, hcw, hfw⟩ := HBt.out.fam
        by_cases hib : i < b
        · have h2z : (i : Int) < (b : Int) := by omega
          go_wp2_with fail
          go_big_quiet (first | (go_at_call 59; refine Calls.quiet_of_same (less_b _ _ _)))
          go_wp2_with fail
          · go_wp2
            go_roundg (b - (i + 1))
            case measure => omega
            case rel => exact ⟨i + 1, by first | rfl | (congr 1; omega), by omega, by omega, rfl, ⟨HS.out.drewN _⟩⟩
          · go_meet
            case rel => exact ⟨i, rfl, hi3, hi4, ⟨HS.out.drewN _⟩⟩
        · have h2z : decide ((i : Int) < (b : Int)) = false := decide_eq_false (by omega)
          go_wp2_with fail
          go_big_quiet (first | (go_at_call 59; refine Calls.quiet_of_same (less_b _ _ _)))
          go_wp2_with fail
          go_meet
          case rel => exact ⟨i, rfl, hi3, hi4, ⟨HS.out.drewN _⟩⟩
    case rest =>
    clear HS
    obtain ⟨i, rfl, hi3, hi4, HS⟩ := hcut
    refine hKC _ _ ?_
    by_cases heb : i = b
    · have h2z : ((i : Int) == (b : Int)) = true := beq_iff_eq.2 (by omega)
      go_wp2
      all_goals (
        go_ret
        exact ⟨⟨_, rfl⟩, HS.out⟩)
    have h2z : ((i : Int) == (b : Int)) = false := beq_eq_false_iff_ne.2 (by omega)
    by_cases h50 : (b : Int) - (a : Int) < 50
    · go_wp2
      all_goals (
        go_ret
        exact ⟨⟨_, rfl⟩, HS.out⟩)
    have h3z : decide ((b : Int) - (a : Int) < 50) = false := decide_eq_false h50
    go_wp2
    go_cut [] (fun wd => Aside0 (Sim ok w wd))
    case first =>
      have HBt := Aside0.mk (hB.sim HS.out)
      obtain ⟨G, hcw, hfw⟩ := HBt.out.fam
      go_region
      all_goals (
        go_wp2
        go_meet
        case rel => exact ⟨HS.out.trans (by first | exact HBt.out.swap (by exact Sim.eqv rfl rfl rfl rfl) i (i - 1) (by omega) (by omega) _ _ | exact (HBt.out.swap (by exact Sim.eqv rfl rfl rfl rfl) i (i - 1) (by omega) (by omega) _ _).drew | exact (HBt.out.swap (by exact Sim.eqv rfl rfl rfl rfl) i (i - 1) (by omega) (by omega) _ _).drewN _)⟩)
    case rest =>
    clear HS
    have HS := hcut
    clear hcut
    refine (‹∀ (a : Act) (w : World), Code.wp Try.prog (Code.seq (Code.seq (Code.region 12 _ _) _) _) _ a w → _›) _ _ ?_
    refine wp_seq_k (fun KD hKD => ?_)
    go_cut [] (fun wd => Aside0 (Sim ok w wd))
    case first =>
      clear hKD KD
      by_cases hge : (i : Int) - (a : Int) ≥ 2
      case neg =>
        have h4z : decide ((i : Int) - (a : Int) ≥ 2) = false := decide_eq_false hge
        go_wp2
        go_meet
        case rel => exact HS
      go_wp2
      go_loopg [9] i (fun m vj wd => ∃ j : Nat, vj = .int .i64 j ∧ j < i ∧ m = j + 1 ∧ Aside0 (Sim ok w wd))
      case atStart => exact ⟨i - 1, by congr 1; omega, by omega, by omega, HS⟩
      case round =>
        obtain ⟨j, rfl, hji, hmj, HS⟩ := hrel
        have HBt := Aside0.mk (hB.sim HS.out)
        obtain ⟨G, hcw, hfw⟩ := HBt.out.fam
        by_cases hj1 : (j : Int) ≥ 1
        case neg =>
          have h5z : decide ((j : Int) ≥ 1) = false := decide_eq_false hj1
          go_wp2
          go_meet
          case rel => exact HS
        go_wp2_with fail
        go_big_quiet (first | (go_at_call 59; refine Calls.quiet_of_same (less_b _ _ _)))
        go_wp2_with fail
        · go_meet
          case rel => exact ⟨HS.out.drewN _⟩
        · skip
          have HBn := Aside0.mk (HBt.out.sim (show Sim ok wr (wr.drewN nq) from .eqv rfl rfl rfl rfl))
          have HSn := Aside0.mk (HS.out.drewN nq)
          clear hcw hfw HBt HS
          generalize wr.drewN nq = wr2 at HBn HSn ⊢
          clear nq
          have HBt := HBn
          have HS := HSn
          clear HBn HSn
          obtain ⟨G2, hcw, hfw⟩ := HBt.out.fam
          go_region
          all_goals (
            go_wp2
            go_roundg j
            case measure => omega
            case rel => exact ⟨j - 1, by first | rfl | (congr 1; omega), by omega, by omega, ⟨HS.out.trans (by first | exact HBt.out.swap (by exact Sim.eqv rfl rfl rfl rfl) j (j - 1) (by omega) (by omega) _ _ | exact (HBt.out.swap (by exact Sim.eqv rfl rfl rfl rfl) j (j - 1) (by omega) (by omega) _ _).drew | exact (HBt.out.swap (by exact Sim.eqv rfl rfl rfl rfl) j (j - 1) (by omega) (by omega) _ _).drewN _)⟩⟩)
    case rest =>
    clear HS
    have HS := hcut
    clear hcut
    refine hKD _ _ ?_
    have RND : ∀ W, Sim ok w W → a < i ∧ i ≤ b ∧ jo + 1 ≤ 5 ∧ 5 - (jo + 1) = 5 - (jo + 1) := fun _ _ => ⟨by omega, by omega, by omega, rfl⟩
    clear RND
    by_cases hbi : (b : Int) - (i : Int) ≥ 2
    case neg =>
      have h6z : decide ((b : Int) - (i : Int) ≥ 2) = false := decide_eq_false hbi
      go_wp2
      go_roundg (5 - (jo + 1))
      case measure => omega
      case rel => exact ⟨i, jo + 1, rfl, by first | rfl | (congr 1; omega), by omega, by omega, by omega, rfl, HS⟩
    go_wp2
    go_loopg [10] (b - (i + 1)) (fun m vj wd => ∃ j : Nat, vj = .int .i64 j ∧ i < j ∧ j ≤ b ∧ m = b - j ∧ Aside0 (Sim ok w wd))
    case atStart => exact ⟨i + 1, by first | rfl | (congr 1; omega), by omega, by omega, rfl, HS⟩
    case round =>
      obtain ⟨j, rfl, hji, hjb, hmj, HS⟩ := hrel
      have HBt := Aside0.mk (hB.sim HS.out)
      obtain ⟨G, hcw, hfw⟩ := HBt.out.fam
      by_cases hj1 : (j : Int) < (b : Int)
      case neg =>
        have h5z : decide ((j : Int) < (b : Int)) = false := decide_eq_false hj1
        go_wp2
        go_roundg (5 - (jo + 1))
        case measure => omega
        case rel => exact ⟨i, jo + 1, rfl, by first | rfl | (congr 1; omega), by omega, by omega, by omega, rfl, HS⟩
      go_wp2_with fail
      go_big_quiet (first | (go_at_call 59; refine Calls.quiet_of_same (less_b _ _ _)))
      go_wp2_with fail
      · go_wp2
        go_roundg (5 - (jo + 1))
        case measure => omega
        case rel => exact ⟨i, jo + 1, rfl, by first | rfl | (congr 1; omega), by omega, by omega, by omega, rfl, ⟨HS.out.drewN _⟩⟩
      · skip
        have HBn := Aside0.mk (HBt.out.sim (show Sim ok wr (wr.drewN nq) from .eqv rfl rfl rfl rfl))
        have HSn := Aside0.mk (HS.out.drewN nq)
        clear hcw hfw HBt HS
        generalize wr.drewN nq = wr2 at HBn HSn ⊢
        clear nq
        have HBt := HBn
        have HS := HSn
        clear HBn HSn
        obtain ⟨G2, hcw, hfw⟩ := HBt.out.fam
        go_region
        all_goals (
          go_wp2
          go_roundg (b - (j + 1))
          case measure => omega
          case rel => exact ⟨j + 1, by first | rfl | (congr 1; omega), by omega, by omega, rfl, ⟨HS.out.trans (by first | exact HBt.out.swap (by exact Sim.eqv rfl rfl rfl rfl) j (j - 1) (by omega) (by omega) _ _ | exact (HBt.out.swap (by exact Sim.eqv rfl rfl rfl rfl) j (j - 1) (by omega) (by omega) _ _).drew | exact (HBt.out.swap (by exact Sim.eqv rfl rfl rfl rfl) j (j - 1) (by omega) (by omega) _ _).drewN _)⟩⟩)
structure Pt (ok : Nat → Prop) (w : World) (sb : Nat) : Prop where
  mine : ok sb
  blk : ∃ (cs : Array Value) (e : Nat), w.heap[sb]? = some (Obj.cells cs e (0, 0)) ∧ ∃ s, cs[0]? = some (Value.int .i64 s)
theorem Pt.sim {ok : Nat → Prop} {w w' : World} {sb : Nat} (h : Pt ok w sb) (hs : Sim ok w w') : Pt ok w' sb := by
  obtain ⟨cs, e, hb, s, hc⟩ := h.blk
  obtain ⟨cs', hb', ha⟩ := hs.on sb cs e hb
  obtain ⟨u, hu, hal⟩ := ha _ _ hc
  refine ⟨h.mine, cs', e, hb', ?_⟩
  cases hal with
  | refl => exact ⟨s, hu⟩
  | int _ _ y => exact ⟨y, hu⟩
theorem Pt.cell {ok : Nat → Prop} {w : World} {sb : Nat} (h : Pt ok w sb) : ∃ s, w.cell? ⟨sb, 0, none⟩ = some (.int .i64 s) ∧ w.frozen? ⟨sb, 0, none⟩ = false ∧ ∀ y, Sim ok w (w.setCell ⟨sb, 0, none⟩ (.int .i64 y)) := by
  obtain ⟨cs, e, hb, s, hc⟩ := h.blk
  exact ⟨s, (blk_cell hb 0).trans hc, blk_frozen hb 0, fun y => Sim.set hb hc (.int _ _ _) h.mine⟩
set_option maxHeartbeats 4000000 in
set_option maxRecDepth 100000 in
theorem o2_b (ok : Nat → Prop) (g off n cap a b sb : Nat) (w : World) (hB : Bt ok w g off n) (hP : Pt ok w sb) (ha : a < n) (hb : b < n) (hn : n < 4611686018427387904) :
    Calls Try.prog 70 #[.slice (some ⟨g, off, none⟩) n cap, .int .i64 a, .int .i64 b, .pointer (some ⟨sb, 0, none⟩)] w fun e w' => (∃ x y : Nat, e = .returned (.tuple #[.int .i64 x, .int .i64 y]) ∧ ((x = a ∧ y = b) ∨ (x = b ∧ y = a))) ∧ Sim ok w w' := by
  have HB := Aside0.mk hB
  have HP := Aside0.mk hP
  obtain ⟨G, hcw, hfw⟩ := hB.fam
  clear hB hP
  go_enter Try.func70, Try.ntmps70
  go_wp2
  obtain ⟨s, hz, hzf, hst⟩ := HP.out.cell
  have HST := Aside0.mk (fun (m : Nat) => (HP.out.sim (show Sim ok w (w.drewN m) from .eqv rfl rfl rfl rfl)).cell)
  clear hst
  go_big_quiet (first | (go_at_call 59; refine Calls.quiet_of_same (less_b _ _ _)))
  have hz2 : (w.drewN nq).cell? ⟨sb, 0, none⟩ = some (.int .i64 s) := hz
  have hzf2 : (w.drewN nq).frozen? ⟨sb, 0, none⟩ = false := hzf
  go_wp2
  · go_ret2
    obtain ⟨s2, _, _, hs2⟩ := HST.out nq
    exact ⟨⟨b, a, rfl, .inr ⟨rfl, rfl⟩⟩, (show Sim ok w (w.drewN nq) from .eqv rfl rfl rfl rfl).trans (hs2 _)⟩
  · go_ret2
    exact ⟨⟨a, b, rfl, .inl ⟨rfl, rfl⟩⟩, .eqv rfl rfl rfl rfl⟩
set_option maxHeartbeats 4000000 in
set_option maxRecDepth 100000 in
theorem med_b (ok : Nat → Prop) (g off n cap a b c sb : Nat) (w : World) (hB : Bt ok w g off n) (hP : Pt ok w sb) (ha : a < n) (hb : b < n) (hc : c < n) (hn : n < 4611686018427387904) :
    Calls Try.prog 68 #[.slice (some ⟨g, off, none⟩) n cap, .int .i64 a, .int .i64 b, .int .i64 c, .pointer (some ⟨sb, 0, none⟩)] w fun e w' => (∃ m : Nat, e = .returned (.int .i64 m) ∧ (m = a ∨ m = b ∨ m = c)) ∧ Sim ok w w' := by
  have HB := Aside0.mk hB
  have HP := Aside0.mk hP
  clear hB hP
  go_enter Try.func68, Try.ntmps68
  go_upto_region 2 with (go_at_call 70; refine (o2_b ok g off n cap a b sb _ HB.out HP.out ha hb hn).mono ?_; rintro e w1 ⟨⟨x1, y1, rfl, h1⟩, hs1⟩; have HS1 := Aside0.mk hs1; clear hs1)
  go_upto_region 3 with (go_at_call 70; refine (o2_b ok g off n cap y1 c sb _ (HB.out.sim HS1.out) (HP.out.sim HS1.out) (by omega) hc hn).mono ?_; rintro e w2 ⟨⟨x2, y2, rfl, h2⟩, hs2⟩; have HS2 := Aside0.mk (HS1.out.trans hs2); clear hs2)
  go_wp2_with (go_at_call 70; refine (o2_b ok g off n cap x1 x2 sb _ (HB.out.sim HS2.out) (HP.out.sim HS2.out) (by omega) (by omega) hn).mono ?_; rintro e w3 ⟨⟨x3, y3, rfl, h3⟩, hs3⟩; have HS3 := Aside0.mk (HS2.out.trans hs3); clear hs3)
  go_ret
  exact ⟨⟨y3, rfl, by omega⟩, HS3.out⟩
set_option maxHeartbeats 4000000 in
set_option maxRecDepth 100000 in
theorem madj_b (ok : Nat → Prop) (g off n cap a sb : Nat) (w : World) (hB : Bt ok w g off n) (hP : Pt ok w sb) (ha : 1 ≤ a) (hb : a + 1 < n) (hn : n < 4611686018427387904) :
    Calls Try.prog 67 #[.slice (some ⟨g, off, none⟩) n cap, .int .i64 a, .pointer (some ⟨sb, 0, none⟩)] w fun e w' => (∃ m : Nat, e = .returned (.int .i64 m) ∧ a ≤ m + 1 ∧ m ≤ a + 1) ∧ Sim ok w w' := by
  have e1 : ((a - 1 : Nat) : Int) = (a : Int) - 1 := by omega
  have hcall := med_b ok g off n cap (a - 1) a (a + 1) sb w hB hP (by omega) (by omega) (by omega) hn
  rw [e1, show ((a + 1 : Nat) : Int) = (a : Int) + 1 from by omega] at hcall
  have HC := Aside0.mk hcall
  clear hcall hB hP
  go_enter Try.func67, Try.ntmps67
  go_wp2_with (go_at_call 68; refine HC.out.mono ?_; rintro e w1 ⟨⟨m, rfl, hm⟩, hs⟩; have HS := Aside0.mk hs; clear hs)
  go_ret
  exact ⟨⟨m, rfl, by omega, by omega⟩, HS.out⟩
theorem Sim.fresh {ok : Nat → Prop} {w w' : World} {o : Obj} (h : Sim (fun k => ok k ∨ k = w.heap.size) (w.alloc o) w') : Sim ok w w' := by
  have h0 : Sim ok w (w.alloc o) := Sim.of_below (below_alloc (Below.refl _ _) o)
  refine ⟨h.os.trans h0.os, h.tape.trans h0.tape, h.output.trans h0.output, Nat.le_trans h0.size h.size, fun i hi hn => (h.off i (Nat.lt_of_lt_of_le hi h0.size) (fun h9 => h9.elim hn (fun e => by omega))).trans (h0.off i hi hn), fun i cs e hc => ?_⟩
  obtain ⟨c1, h1, a1⟩ := h0.on i cs e hc
  obtain ⟨c2, h2, a2⟩ := h.on i c1 e h1
  refine ⟨c2, h2, fun j u hu => ?_⟩
  obtain ⟨u1, e1, b1⟩ := a1 j u hu
  obtain ⟨u2, e2, b2⟩ := a2 j u1 e1
  exact ⟨u2, e2, b1.trans b2⟩
theorem Bt.mono {ok ok' : Nat → Prop} {w : World} {g off n : Nat} (h : Bt ok w g off n) (hm : ∀ k, ok k → ok' k) : Bt ok' w g off n := ⟨hm _ h.mine, h.blk⟩
set_option maxHeartbeats 8000000 in
set_option maxRecDepth 100000 in
theorem piv_b (ok : Nat → Prop) (g off n cap a b : Nat) (w : World) (hB : Bt ok w g off n) (hab : a < b) (hb : b ≤ n) (hn : n < 4611686018427387904) :
    Calls Try.prog 56 #[.slice (some ⟨g, off, none⟩) n cap, .int .i64 a, .int .i64 b] w fun e w' => (∃ (m : Nat) (h : Int), e = .returned (.tuple #[.int .i64 m, .int .i64 h]) ∧ a ≤ m ∧ m < b) ∧ Sim ok w w' := by
  obtain ⟨q, hq, hq1, hq2⟩ : ∃ q : Nat, Int.tdiv ((b : Int) - (a : Int)) 4 = (q : Int) ∧ 4 * q ≤ b - a ∧ b - a < 4 * q + 4 := ⟨(b - a) / 4, by rw [Int.tdiv_eq_ediv_of_nonneg (by omega)]; omega, by omega, by omega⟩
  have HBa := Aside0.mk (fun o => (hB.mono (ok' := fun k => ok k ∨ k = w.heap.size) (fun _ h => .inl h)).sim (Sim.of_below (below_alloc (Below.refl _ _) o)))
  have HPa := Aside0.mk (show Pt (fun k => ok k ∨ k = w.heap.size) (w.alloc (.cells #[.int .i64 0] 3)) w.heap.size from ⟨.inr rfl, _, _, heap_alloc_new _ _, 0, rfl⟩)
  clear hB
  go_enter Try.func56, Try.ntmps56
  go_upto_region 3 with (fail)
  have HBq := Aside0.mk (HBa.out (.cells #[.int .i64 0] 3))
  have HSq := Aside0.mk (fun w' (h : Sim (fun k => ok k ∨ k = w.heap.size) (w.alloc (.cells #[.int .i64 0] 3)) w') => Sim.fresh h)
  clear HBa
  generalize hok : (fun k => ok k ∨ k = w.heap.size) = ok' at HBq HPa HSq
  generalize hwa : w.alloc (.cells #[.int .i64 0] 3) = wa at HBq HPa HSq ⊢
  generalize hsb : w.heap.size = sb at HPa ⊢
  clear hok hwa hsb
  have em1 : ((a + q : Nat) : Int) = (a : Int) + (q : Int) := by omega
  have em2 : ((a + q * 2 : Nat) : Int) = (a : Int) + (q : Int) * 2 := by omega
  have em3 : ((a + q * 3 : Nat) : Int) = (a : Int) + (q : Int) * 3 := by omega
  have EM := Aside0.mk (And.intro em1 (And.intro em2 em3))
  clear em1 em2 em3
  by_cases h8 : (b : Int) - (a : Int) ≥ 8
  case neg =>
    have d8 : decide ((b : Int) - (a : Int) ≥ 8) = false := decide_eq_false h8
    obtain ⟨s, hz, hzf, _⟩ := HPa.out.cell
    go_wp2
    all_goals (
      go_ret2
      exact ⟨⟨a + q * 2, ⟨_, by first | rfl | (rw [EM.out.2.1]; rfl)⟩, by omega, by omega⟩, HSq.out _ (Sim.refl _ _)⟩)
  by_cases h50 : (b : Int) - (a : Int) ≥ 50
  case neg =>
    have d50 : decide ((b : Int) - (a : Int) ≥ 50) = false := decide_eq_false h50
    have hc := med_b ok' g off n cap (a + q) (a + q * 2) (a + q * 3) sb wa HBq.out HPa.out (by omega) (by omega) (by omega) hn
    rw [EM.out.1, EM.out.2.1, EM.out.2.2] at hc
    have HC := Aside0.mk hc
    clear hc
    go_wp2_with (go_at_call 68; refine HC.out.mono ?_; rintro e w1 ⟨⟨m, rfl, hm⟩, hs⟩; have HS1 := Aside0.mk hs; obtain ⟨s, hz, hzf, _⟩ := (HPa.out.sim hs).cell; clear hs)
    all_goals (
      go_ret2
      exact ⟨⟨m, _, by first | rfl | (rw [EM.out.2.1]; rfl), by omega, by omega⟩, HSq.out _ HS1.out⟩)
  have hc1 := madj_b ok' g off n cap (a + q) sb wa HBq.out HPa.out (by omega) (by omega) hn
  rw [EM.out.1] at hc1
  have HC1 := Aside0.mk hc1
  clear hc1
  go_upto_region 9 with (go_at_call 67; refine HC1.out.mono ?_; rintro e w1 ⟨⟨i1, rfl, hi1, hi2⟩, hs⟩; have HS1 := Aside0.mk hs; clear hs)
  have hc2 := fun W (h : Sim ok' wa W) => madj_b ok' g off n cap (a + q * 2) sb W (HBq.out.sim h) (HPa.out.sim h) (by omega) (by omega) hn
  rw [EM.out.2.1] at hc2
  have HC2 := Aside0.mk hc2
  clear hc2 HC1
  go_upto_region 10 with (go_at_call 67; refine (HC2.out _ HS1.out).mono ?_; rintro e w2 ⟨⟨i2, rfl, hi3, hi4⟩, hs⟩; have HS2 := Aside0.mk (HS1.out.trans hs); clear hs)
  have hc3 := fun W (h : Sim ok' wa W) => madj_b ok' g off n cap (a + q * 3) sb W (HBq.out.sim h) (HPa.out.sim h) (by omega) (by omega) hn
  rw [EM.out.2.2] at hc3
  have HC3 := Aside0.mk hc3
  clear hc3 HC2
  go_upto_region 11 with (go_at_call 67; refine (HC3.out _ HS2.out).mono ?_; rintro e w3 ⟨⟨i3, rfl, hi5, hi6⟩, hs⟩; have HS3 := Aside0.mk (HS2.out.trans hs); clear hs)
  go_wp2_with (go_at_call 68; refine (med_b ok' g off n cap i1 i2 i3 sb _ (HBq.out.sim HS3.out) (HPa.out.sim HS3.out) (by omega) (by omega) (by omega) hn).mono ?_; rintro e w4 ⟨⟨m, rfl, hm⟩, hs⟩; have HS4 := Aside0.mk (HS3.out.trans hs); obtain ⟨s, hz, hzf, _⟩ := (HPa.out.sim HS4.out).cell; clear hs)
  all_goals (
    go_ret2
    exact ⟨⟨m, _, by first | rfl | (rw [EM.out.2.1]; rfl), by omega, by omega⟩, HSq.out _ HS4.out⟩)
structure Pu (ok : Nat → Prop) (w : World) (sb : Nat) : Prop where
  mine : ok sb
  blk : ∃ (cs : Array Value) (e : Nat), w.heap[sb]? = some (Obj.cells cs e (0, 0)) ∧ ∃ s, cs[0]? = some (Value.int .u64 s)
theorem Pu.sim {ok : Nat → Prop} {w w' : World} {sb : Nat} (h : Pu ok w sb) (hs : Sim ok w w') : Pu ok w' sb := by
  obtain ⟨cs, e, hb, s, hc⟩ := h.blk
  obtain ⟨cs', hb', ha⟩ := hs.on sb cs e hb
  obtain ⟨u, hu, hal⟩ := ha _ _ hc
  refine ⟨h.mine, cs', e, hb', ?_⟩
  cases hal with
  | refl => exact ⟨s, hu⟩
  | int _ _ y => exact ⟨y, hu⟩
theorem Pu.cell {ok : Nat → Prop} {w : World} {sb : Nat} (h : Pu ok w sb) : ∃ s, w.cell? ⟨sb, 0, none⟩ = some (.int .u64 s) ∧ w.frozen? ⟨sb, 0, none⟩ = false ∧ ∀ y, Sim ok w (w.setCell ⟨sb, 0, none⟩ (.int .u64 y)) := by
  obtain ⟨cs, e, hb, s, hc⟩ := h.blk
  exact ⟨s, (blk_cell hb 0).trans hc, blk_frozen hb 0, fun y => Sim.set hb hc (.int _ _ _) h.mine⟩
theorem bitLen_pow : ∀ (f x : Nat), x ≠ 0 → x < 2 ^ f → 2 ^ (Go.Lib.bitLenAux f x) ≤ 2 * x
  | 0, x, h, hx => by simp at hx; omega
  | f + 1, x, h, hx => by
    rw [Go.Lib.bitLenAux, if_neg h]
    by_cases h2 : x / 2 = 0
    · have h0 : Go.Lib.bitLenAux f 0 = 0 := by cases f <;> simp [Go.Lib.bitLenAux]
      rw [h2, h0]
      omega
    · have := bitLen_pow f (x / 2) h2 (by omega)
      rw [Nat.pow_add, Nat.pow_one]
      omega
set_option maxHeartbeats 4000000 in
set_option maxRecDepth 100000 in
theorem xor_b (ok : Nat → Prop) (rb : Nat) (w : World) (hP : Pu ok w rb) :
    Calls Try.prog 66 #[.pointer (some ⟨rb, 0, none⟩)] w fun e w' => (∃ y : Int, e = .returned (.int .u64 y)) ∧ Sim ok w w' := by
  have HS := Aside0.mk (Sim.refl ok w)
  have HP := Aside0.mk hP
  go_enter Try.func66, Try.ntmps66
  go_wp2
  go_cut [] (fun wd => Aside0 (Sim ok w wd) ∧ Aside0 (Pu ok wd rb))
  case first =>
    obtain ⟨s, hz, hzf, hst⟩ := HP.out.cell
    have HST := Aside0.mk hst
    clear hst
    go_region
    all_goals (
      go_wp2
      go_meet
      case rel => exact ⟨⟨HS.out.trans (by first | exact HST.out _ | exact (HST.out _).drew | exact (HST.out _).drewN _)⟩, ⟨HP.out.sim (by first | exact HST.out _ | exact (HST.out _).drew | exact (HST.out _).drewN _)⟩⟩)
  case rest =>
  clear HS HP
  obtain ⟨HS, HP⟩ := hcut
  go_wp2
  go_cut [] (fun wd => Aside0 (Sim ok w wd) ∧ Aside0 (Pu ok wd rb))
  case first =>
    obtain ⟨s, hz, hzf, hst⟩ := HP.out.cell
    have HST := Aside0.mk hst
    clear hst
    go_region
    all_goals (
      go_wp2
      go_meet
      case rel => exact ⟨⟨HS.out.trans (by first | exact HST.out _ | exact (HST.out _).drew | exact (HST.out _).drewN _)⟩, ⟨HP.out.sim (by first | exact HST.out _ | exact (HST.out _).drew | exact (HST.out _).drewN _)⟩⟩)
  case rest =>
  clear HS HP
  obtain ⟨HS, HP⟩ := hcut
  go_wp2
  go_cut [] (fun wd => Aside0 (Sim ok w wd) ∧ Aside0 (Pu ok wd rb))
  case first =>
    obtain ⟨s, hz, hzf, hst⟩ := HP.out.cell
    have HST := Aside0.mk hst
    clear hst
    go_region
    all_goals (
      go_wp2
      go_meet
      case rel => exact ⟨⟨HS.out.trans (by first | exact HST.out _ | exact (HST.out _).drew | exact (HST.out _).drewN _)⟩, ⟨HP.out.sim (by first | exact HST.out _ | exact (HST.out _).drew | exact (HST.out _).drewN _)⟩⟩)
  case rest =>
  clear HS HP
  obtain ⟨HS, HP⟩ := hcut
  obtain ⟨s, hz, hzf, _⟩ := HP.out.cell
  go_wp2
  go_ret
  exact ⟨⟨_, rfl⟩, HS.out⟩
set_option maxHeartbeats 4000000 in
set_option maxRecDepth 100000 in
theorem npt_b (x : Nat) (hx : 1 ≤ x) (hx2 : x < 4611686018427387904) (w : World) :
    Calls Try.prog 65 #[.int .i64 x] w fun e w' => (∃ M : Int, e = .returned (.int .u64 M) ∧ 1 ≤ M ∧ M ≤ 2 * x) ∧ w' = w := by
  have h1 := bitLen_pow 64 x (by omega) (by omega)
  have h2 : Go.Lib.bitLenAux 64 x ≤ 63 := by
    by_cases h : Go.Lib.bitLenAux 64 x ≤ 63
    · exact h
    · have : 2 ^ 64 ≤ 2 ^ (Go.Lib.bitLenAux 64 x) := Nat.pow_le_pow_right (by omega) (by omega)
      omega
  have hc := Try.bits_Len (x : Int) w (by omega) (by omega)
  go_enter Try.func65, Try.ntmps65
  go_wp2_with (go_at_call 51; refine hc.mono ?_; rintro e w' ⟨rfl, rfl⟩)
  have hm : min (Go.Lib.bitLen x) 64 = Go.Lib.bitLenAux 64 x := by unfold Go.Lib.bitLen; omega
  have hp : 1 ≤ 2 ^ (Go.Lib.bitLenAux 64 x) := Nat.one_le_two_pow
  have hv : IntKind.u64.wrap ((2 : Int) ^ min (Go.Lib.bitLen x) 64) = ((2 ^ (Go.Lib.bitLenAux 64 x) : Nat) : Int) := by
    rw [hm, show ((2 : Int) ^ (Go.Lib.bitLenAux 64 x)) = ((2 ^ (Go.Lib.bitLenAux 64 x) : Nat) : Int) from by simp]
    generalize 2 ^ (Go.Lib.bitLenAux 64 x) = y at h1 hp
    show ((y : Int) % _) = _
    exact Int.emod_eq_of_lt (by omega) (by show (y : Int) < 18446744073709551616; omega)
  go_ret
  refine ⟨⟨_, rfl, ?_, ?_⟩, rfl⟩
  · rw [hv]; omega
  · rw [hv]; omega
theorem and_le (y M : Int) (h1 : 1 ≤ M) (h2 : M ≤ 9223372036854775808) : 0 ≤ Go.bits .and .u64 y (M - 1) ∧ Go.bits .and .u64 y (M - 1) ≤ M - 1 := by
  have e : Go.bits .and .u64 y (M - 1) = ((BitVec.ofInt 64 y &&& BitVec.ofInt 64 (M - 1)).toNat : Int) := by
    show IntKind.u64.wrap ((BitVec.ofInt 64 y &&& BitVec.ofInt 64 (M - 1)).toNat : Nat) = _
    have := (BitVec.ofInt 64 y &&& BitVec.ofInt 64 (M - 1)).isLt
    show (((BitVec.ofInt 64 y &&& BitVec.ofInt 64 (M - 1)).toNat : Int) % _) = _
    exact Int.emod_eq_of_lt (by omega) (by show _ < (18446744073709551616 : Int); omega)
  have h3 : (BitVec.ofInt 64 (M - 1)).toNat = (M - 1).toNat := by
    rw [BitVec.toNat_ofInt]
    omega
  have h4 : (BitVec.ofInt 64 y &&& BitVec.ofInt 64 (M - 1)).toNat ≤ (BitVec.ofInt 64 (M - 1)).toNat := by
    rw [BitVec.toNat_and]
    exact Nat.and_le_right
  rw [e]
  omega
set_option maxHeartbeats 8000000 in
set_option maxRecDepth 100000 in
theorem brk_b (ok : Nat → Prop) (g off n cap a b : Nat) (w : World) (hB : Bt ok w g off n) (hab : a ≤ b) (hb : b ≤ n) (hn : n < 4611686018427387904) :
    Calls Try.prog 55 #[.slice (some ⟨g, off, none⟩) n cap, .int .i64 a, .int .i64 b] w fun e w' => e = .returned (.tuple #[]) ∧ Sim ok w w' := by
  by_cases h8 : (b : Int) - (a : Int) ≥ 8
  case neg =>
    have d8 : decide ((b : Int) - (a : Int) ≥ 8) = false := decide_eq_false h8
    go_enter Try.func55, Try.ntmps55
    go_wp2
    go_end0
    exact ⟨rfl, Sim.refl _ _⟩
  obtain ⟨q, hq, hq1, hq2⟩ : ∃ q : Nat, Int.tdiv ((b : Int) - (a : Int)) 4 = (q : Int) ∧ 4 * q ≤ b - a ∧ b - a < 4 * q + 4 := ⟨(b - a) / 4, by rw [Int.tdiv_eq_ediv_of_nonneg (by omega)]; omega, by omega, by omega⟩
  have hc := fun W => npt_b (b - a) (by omega) (by omega) W
  rw [show ((b - a : Nat) : Int) = (b : Int) - (a : Int) from by omega] at hc
  have HC := Aside0.mk hc
  clear hc
  go_enter Try.func55, Try.ntmps55
  go_upto_region 2 with (fail)
  go_cut [7] (fun v7 wd => ∃ (sb : Nat) (ok' : Nat → Prop), v7 = .pointer (some ⟨sb, 0, none⟩) ∧ Aside0 (Pu ok' wd sb) ∧ Aside0 (Bt ok' wd g off n) ∧ Aside0 (∀ w', Sim ok' wd w' → Sim ok w w'))
  case first =>
    go_wp2
    go_meet
    case rel => exact ⟨w.heap.size, fun k => ok k ∨ k = w.heap.size, rfl, ⟨.inr rfl, _, _, heap_alloc_new _ _, _, rfl⟩, ⟨(hB.mono (fun _ h => .inl h)).sim (Sim.of_below (below_alloc (Below.refl _ _) _))⟩, ⟨fun w' h => Sim.fresh h⟩⟩
  case rest =>
  obtain ⟨sb, ok', rfl, HP, HB, HF⟩ := hcut
  refine (‹∀ (a : Act) (w : World), Code.wp Try.prog (Code.seq (Code.region 3 _ _) _) _ a w → _›) _ _ ?_
  go_wp2_with (go_at_call 65; refine (HC.out _).mono ?_; rintro e w1 ⟨⟨M, rfl, hM1, hM2⟩, rfl⟩)
  go_loopg [9] 3 (fun m v9 wr => ∃ i : Nat, v9 = .int .i64 i ∧ i + m = a + q * 2 + 2 ∧ Aside0 (Sim ok' w1 wr))
  case atStart => exact ⟨a + q * 2 - 1, by congr 1; omega, by omega, ⟨Sim.refl _ _⟩⟩
  case round =>
    obtain ⟨i, rfl, hi, HS⟩ := hrel
    cases gk with
    | zero =>
      have dz : decide ((i : Int) ≤ (a : Int) + (q : Int) * 2 + 1) = false := decide_eq_false (by omega)
      go_wp2
      go_end0
      exact ⟨rfl, HF.out _ HS.out⟩
    | succ m =>
      have dz : (i : Int) ≤ (a : Int) + (q : Int) * 2 + 1 := by omega
      go_upto_region 7 with (fail)
      go_cut [10] (fun v10 wd => ∃ z : Nat, v10 = .int .i64 z ∧ z < 2 * (b - a) ∧ Aside0 (Sim ok' w1 wd))
      case first =>
        go_wp2_with (go_at_call 66; refine (xor_b ok' sb _ (HP.out.sim HS.out)).mono ?_; rintro e w2 ⟨⟨y, rfl⟩, hs⟩; have HS2 := Aside0.mk (HS.out.trans hs); clear hs)
        go_meet
        case rel =>
          obtain ⟨l1, l2⟩ := and_le y M hM1 (by omega)
          refine ⟨(Go.bits .and .u64 y (M - 1)).toNat, ?_, by omega, HS2⟩
          rw [IntWalk.wrap64_in _ ⟨by omega, by omega⟩]
          exact congrArg _ (by omega)
      case rest =>
      clear HS
      obtain ⟨z, rfl, hz, HS⟩ := hcut
      refine (‹∀ (a : Act) (w : World), Code.wp Try.prog (Code.seq (Code.seq (Code.region 8 _ _) _) _) _ a w → _›) _ _ ?_
      refine wp_seq_k (fun K8 hK8 => ?_)
      go_cut [10] (fun v10 wd => ∃ o : Nat, v10 = .int .i64 o ∧ o < b - a ∧ Aside0 (Sim ok' w1 wd))
      case first =>
        by_cases hzl : (z : Int) ≥ (b : Int) - (a : Int)
        · go_wp2
          go_meet
          case rel => exact ⟨z - (b - a), by congr 1; omega, by omega, HS⟩
        · have dl : decide ((z : Int) ≥ (b : Int) - (a : Int)) = false := decide_eq_false hzl
          go_wp2
          go_meet
          case rel => exact ⟨z, rfl, by omega, HS⟩
      case rest =>
      clear HS
      obtain ⟨o, rfl, ho, HS⟩ := hcut
      refine hK8 _ _ ?_
      have HBt := Aside0.mk (HB.out.sim HS.out)
      obtain ⟨G, hcw, hfw⟩ := HBt.out.fam
      by_cases hsame : i = a + o
      · subst hsame
        go_region
        all_goals (
          go_wp2
          go_roundg m
          case measure => omega
          case rel => exact ⟨a + o + 1, by first | rfl | (congr 1; omega), by omega, ⟨HS.out.trans (by first | exact HBt.out.swap (by exact Sim.eqv rfl rfl rfl rfl) (a + o) (a + o) (by omega) (by omega) _ _ | exact (HBt.out.swap (by exact Sim.eqv rfl rfl rfl rfl) (a + o) (a + o) (by omega) (by omega) _ _).drew | exact (HBt.out.swap (by exact Sim.eqv rfl rfl rfl rfl) (a + o) (a + o) (by omega) (by omega) _ _).drewN _)⟩⟩)
      · go_region
        all_goals (
          go_wp2
          go_roundg m
          case measure => omega
          case rel => exact ⟨i + 1, by first | rfl | (congr 1; omega), by omega, ⟨HS.out.trans (by first | exact HBt.out.swap (by exact Sim.eqv rfl rfl rfl rfl) i (a + o) (by omega) (by omega) _ _ | exact (HBt.out.swap (by exact Sim.eqv rfl rfl rfl rfl) i (a + o) (by omega) (by omega) _ _).drew | exact (HBt.out.swap (by exact Sim.eqv rfl rfl rfl rfl) i (a + o) (by omega) (by omega) _ _).drewN _)⟩⟩)
set_option maxHeartbeats 16000000 in
set_option maxRecDepth 100000 in
theorem pdq_b (ok : Nat → Prop) (g off n cap : Nat) (hn : n < 4611686018427387904) : ∀ (N a b l : Nat) (w : World), b - a < N → Bt ok w g off n → a ≤ b → b ≤ n → l < 4611686018427387904 →
    Calls Try.prog 50 #[.slice (some ⟨g, off, none⟩) n cap, .int .i64 a, .int .i64 b, .int .i64 l] w fun e w' => e = .returned (.tuple #[]) ∧ Sim ok w w' := by
  intro N
  induction N with
  | zero => exact fun a b l w hN _ _ _ _ => absurd hN (Nat.not_lt_zero _)
  | succ N ih =>
  intro a b l w hN hB hab hb hl
  have IH := Aside0.mk ih
  clear ih
  go_enter Try.func50, Try.ntmps50
  go_wp2
  go_loopg [1, 2, 3, 8, 9] (b - a) (fun m v1 v2 v3 v8 v9 wr => ∃ (a' b' l' : Nat) (q8 q9 : Bool), v1 = .int .i64 a' ∧ v2 = .int .i64 b' ∧ v3 = .int .i64 l' ∧ v8 = .bool q8 ∧ v9 = .bool q9 ∧ a ≤ a' ∧ a' ≤ b' ∧ b' ≤ b ∧ l' < 4611686018427387904 ∧ m = b' - a' ∧ Aside0 (Sim ok w wr))
  case atStart => exact ⟨a, b, l, true, true, rfl, rfl, rfl, rfl, rfl, Nat.le_refl _, hab, Nat.le_refl _, hl, rfl, ⟨Sim.refl _ _⟩⟩
  case round =>
    obtain ⟨a1, b1, l1, q8, q9, rfl, rfl, rfl, rfl, rfl, r1, r2, r3, r4, hm, HS⟩ := hrel
    refine wp_block ?_
    refine wp_seq_k (fun K2 hK2 => ?_)
    go_cut [10] (fun v10 wd => v10 = .int .i64 ((b1 : Int) - (a1 : Int)) ∧ Aside0 (Sim ok w wd))
    case first =>
      go_wp2
      go_meet
      case rel => exact ⟨rfl, HS⟩
    case rest =>
    clear HS
    obtain ⟨rfl, HS⟩ := hcut
    refine hK2 _ _ ?_
    clear hK2 K2
    refine wp_seq_k (fun K3 hK3 => ?_)
    by_cases h12 : (b1 : Int) - (a1 : Int) ≤ 12
    · go_wp2_with (go_at_call 53; refine (ins_b ok g off n cap a1 b1 _ (hB.sim HS.out) (by omega) (by omega) hn).mono ?_; rintro e w1 ⟨rfl, hs⟩; have HS1 := Aside0.mk (HS.out.trans hs); clear hs)
      (try simp only [Exit.inBlock, Exit.then])
      refine bodyPost_ret (results_none rfl _ _ _) rfl ?_
      exact ⟨rfl, HS1.out⟩
    have d12 : decide ((b1 : Int) - (a1 : Int) ≤ 12) = false := decide_eq_false h12
    go_cut [] (fun wd => Aside0 (Sim ok w wd))
    case first =>
      go_wp2
      go_meet
      case rel => exact HS
    case rest =>
    clear HS
    have HS := hcut
    clear hcut
    refine hK3 _ _ ?_
    clear hK3 K3
    refine wp_seq_k (fun K5 hK5 => ?_)
    by_cases hl0 : l1 = 0
    · have d0 : ((l1 : Int) == 0) = true := beq_iff_eq.2 (by omega)
      go_wp2_with (go_at_call 54; refine (heap_b ok g off n cap a1 b1 _ (hB.sim HS.out) (by omega) (by omega) hn).mono ?_; rintro e w1 ⟨rfl, hs⟩; have HS1 := Aside0.mk (HS.out.trans hs); clear hs)
      (try simp only [Exit.inBlock, Exit.then])
      refine bodyPost_ret (results_none rfl _ _ _) rfl ?_
      exact ⟨rfl, HS1.out⟩
    have d0 : ((l1 : Int) == 0) = false := beq_eq_false_iff_ne.2 (by omega)
    go_cut [] (fun wd => Aside0 (Sim ok w wd))
    case first =>
      go_wp2
      go_meet
      case rel => exact HS
    case rest =>
    clear HS
    have HS := hcut
    clear hcut
    refine hK5 _ _ ?_
    clear hK5 K5
    refine wp_seq_k (fun K7 hK7 => ?_)
    go_cut [3] (fun v3 wd => ∃ l2 : Nat, v3 = .int .i64 l2 ∧ l2 < 4611686018427387904 ∧ Aside0 (Sim ok w wd))
    case first =>
      cases q8 with
      | true =>
        go_wp2
        go_meet
        case rel => exact ⟨l1, rfl, r4, HS⟩
      | false =>
        go_wp2_with (go_at_call 55; refine (brk_b ok g off n cap a1 b1 _ (hB.sim HS.out) (by omega) (by omega) hn).mono ?_; rintro e w1 ⟨rfl, hs⟩; have HS1 := Aside0.mk (HS.out.trans hs); clear hs)
        go_meet
        case rel => exact ⟨l1 - 1, by congr 1; omega, by omega, HS1⟩
    case rest =>
    clear HS
    obtain ⟨l2, rfl, r5, HS⟩ := hcut
    refine hK7 _ _ ?_
    clear hK7 K7
    refine wp_seq_k (fun K10 hK10 => ?_)
    go_cut [11, 12] (fun v11 v12 wd => ∃ (p : Nat) (h : Int), v11 = .int .i64 p ∧ v12 = .int .i64 h ∧ a1 ≤ p ∧ p < b1 ∧ Aside0 (Sim ok w wd))
    case first =>
      go_wp2_with (go_at_call 56; refine (piv_b ok g off n cap a1 b1 _ (hB.sim HS.out) (by omega) (by omega) hn).mono ?_; rintro e w1 ⟨⟨p, h, rfl, hp1, hp2⟩, hs⟩; have HS1 := Aside0.mk (HS.out.trans hs); clear hs)
      go_meet
      case rel => exact ⟨p, h, rfl, rfl, hp1, hp2, HS1⟩
    case rest =>
    clear HS
    obtain ⟨p, h, rfl, rfl, hp1, hp2, HS⟩ := hcut
    refine hK10 _ _ ?_
    clear hK10 K10
    refine wp_seq_k (fun K11 hK11 => ?_)
    go_cut [11, 12] (fun v11 v12 wd => ∃ (p : Nat) (h : Int), v11 = .int .i64 p ∧ v12 = .int .i64 h ∧ a1 ≤ p ∧ p < b1 ∧ Aside0 (Sim ok w wd))
    case first =>
      cases hh : (h == 2) with
      | true =>
        go_wp2_with (go_at_call 57; refine (rev_b ok g off n cap a1 b1 _ (hB.sim HS.out) (by omega) (by omega) hn).mono ?_; rintro e w1 ⟨rfl, hs⟩; have HS1 := Aside0.mk (HS.out.trans hs); clear hs)
        go_meet
        case rel => exact ⟨b1 - 1 - (p - a1), 1, by congr 1; omega, rfl, by omega, by omega, HS1⟩
      | false =>
        go_wp2
        go_meet
        case rel => exact ⟨p, h, rfl, rfl, hp1, hp2, HS⟩
    case rest =>
    clear HS hp1 hp2
    obtain ⟨p, h, rfl, rfl, hp1, hp2, HS⟩ := hcut
    refine hK11 _ _ ?_
    clear hK11 K11
    refine wp_seq_k (fun K15 hK15 => ?_)
    go_cut [] (fun wd => Aside0 (Sim ok w wd))
    case first =>
      cases q8 with
      | false =>
        go_wp2
        go_meet
        case rel => exact HS
      | true =>
        cases q9 with
        | false =>
          go_wp2
          go_meet
          case rel => exact HS
        | true =>
          cases hh : (h == 1) with
          | false =>
            go_wp2
            go_meet
            case rel => exact HS
          | true =>
            go_wp2_with (go_at_call 58; refine (par_b ok g off n cap a1 b1 _ (hB.sim HS.out) (by omega) (by omega) hn).mono ?_; rintro e w1 ⟨⟨q, rfl⟩, hs⟩; have HS1 := Aside0.mk (HS.out.trans hs); clear hs)
            · refine bodyPost_ret (results_none rfl _ _ _) rfl ?_
              exact ⟨rfl, HS1.out⟩
            · go_meet
              case rel => exact HS1
    case rest =>
    clear HS
    have HS := hcut
    clear hcut
    refine hK15 _ _ ?_
    clear hK15 K15
    refine wp_seq_k (fun K17 hK17 => ?_)
    go_cut [1] (fun v1 wd => v1 = .int .i64 a1 ∧ Aside0 (Sim ok w wd))
    case first =>
      have HBt := Aside0.mk (hB.sim HS.out)
      obtain ⟨G, hcw, hfw⟩ := HBt.out.fam
      by_cases ha0 : 0 < a1
      · have h1z : (0 : Int) < (a1 : Int) := by omega
        refine wp_seq_k (fun K18 hK18 => ?_)
        go_wp2_with fail
        go_big_quiet (first | (go_at_call 59; refine Calls.quiet_of_same (less_b _ _ _)))
        refine hK18 _ _ ?_
        clear hK18 K18
        go_wp2_with (go_at_call 60; refine (peq_b ok g off n cap a1 b1 p _ (hB.sim (by exact HS.out.drewN _)) hp1 hp2 (by omega) hn).mono ?_; rintro e w1 ⟨m, rfl, hm1, hm2, hs⟩; have HS1 := Aside0.mk ((HS.out.drewN _).trans hs); clear hs)
        · go_roundg (b1 - m)
          case measure => omega
          case rel => exact ⟨m, b1, l2, q8, q9, rfl, rfl, rfl, rfl, rfl, by omega, by omega, by omega, r5, rfl, HS1⟩
        · go_meet
          case rel => exact ⟨rfl, ⟨HS.out.drewN _⟩⟩
      · have h1z : decide ((0 : Int) < (a1 : Int)) = false := decide_eq_false (by omega)
        go_wp2_with fail
        go_big_quiet (first | (go_at_call 59; refine Calls.quiet_of_same (less_b _ _ _)))
        go_wp2_with fail
        go_meet
        case rel => exact ⟨rfl, ⟨HS.out.drewN _⟩⟩
    case rest =>
    clear HS
    obtain ⟨rfl, HS⟩ := hcut
    refine hK17 _ _ ?_
    clear hK17 K17
    refine wp_seq_k (fun K20 hK20 => ?_)
    go_cut [14, 15] (fun v14 v15 wd => ∃ (m : Nat) (q : Bool), v14 = .int .i64 m ∧ v15 = .bool q ∧ a1 ≤ m ∧ m < b1 ∧ Aside0 (Sim ok w wd))
    case first =>
      go_wp2_with (go_at_call 61; refine (prt_b ok g off n cap a1 b1 p _ (hB.sim HS.out) hp1 hp2 (by omega) hn).mono ?_; rintro e w1 ⟨m, ⟨q, rfl⟩, hm1, hm2, hs⟩; have HS1 := Aside0.mk (HS.out.trans hs); clear hs)
      go_meet
      case rel => exact ⟨m, q, rfl, rfl, hm1, hm2, HS1⟩
    case rest =>
    clear HS
    obtain ⟨m, q, rfl, rfl, hm1, hm2, HS⟩ := hcut
    refine hK20 _ _ ?_
    clear hK20 K20
    by_cases hlr : (m : Int) - (a1 : Int) < (b1 : Int) - (m : Int)
    · go_wp2_with (go_at_call 50; refine (IH.out a1 m l2 _ (by omega) (hB.sim HS.out) (by omega) (by omega) r5).mono ?_; rintro e w1 ⟨rfl, hs⟩; have HS1 := Aside0.mk (HS.out.trans hs); clear hs)
      go_roundg (b1 - (m + 1))
      case measure => omega
      case rel => exact ⟨m + 1, b1, l2, _, q, by first | rfl | (congr 1; omega), rfl, rfl, rfl, rfl, by omega, by omega, by omega, r5, rfl, HS1⟩
    · have dlr : decide ((m : Int) - (a1 : Int) < (b1 : Int) - (m : Int)) = false := decide_eq_false hlr
      go_wp2_with (go_at_call 50; refine (IH.out (m + 1) b1 l2 _ (by omega) (hB.sim HS.out) (by omega) (by omega) r5).mono ?_; rintro e w1 ⟨rfl, hs⟩; have HS1 := Aside0.mk (HS.out.trans hs); clear hs)
      go_roundg (m - a1)
      case measure => omega
      case rel => exact ⟨a1, m, l2, _, q, rfl, rfl, rfl, rfl, rfl, by omega, by omega, by omega, r5, rfl, HS1⟩
theorem bitLen_le : ∀ (f x : Nat), Go.Lib.bitLenAux f x ≤ f
  | 0, _ => Nat.le_refl 0
  | f + 1, x => by
    have := bitLen_le f (x / 2)
    unfold Go.Lib.bitLenAux
    split <;> omega
set_option maxHeartbeats 8000000 in
theorem sort_b (ok : Nat → Prop) (g off n cap : Nat) (w : World) (hB : Bt ok w g off n) (hn : n < 4611686018427387904) :
    Calls Try.prog 45 #[.slice (some ⟨g, off, none⟩) n cap] w fun e w' => e = .returned (.tuple #[]) ∧ Sim ok w w' := by
  have hle : Go.Lib.bitLenAux 64 n ≤ 64 := bitLen_le 64 n
  have hlen : Go.Lib.bitLen n < 4611686018427387904 := by unfold Go.Lib.bitLen; omega
  have hc := Try.bits_Len (n : Int) w (by omega) (by omega)
  have hp : Calls Try.prog 50 #[.slice (some ⟨g, off, none⟩) n cap, .int .i64 0, .int .i64 (n : Int), .int .i64 (Go.Lib.bitLen n : Nat)] w fun e w' => e = .returned (.tuple #[]) ∧ Sim ok w w' := pdq_b ok g off n cap hn (n + 1) 0 n _ w (by omega) hB (by omega) (by omega) hlen
  go_enter Try.func45, Try.ntmps45
  go_wp2_with (first
    | (go_at_call 51; refine hc.mono ?_; rintro e w' ⟨rfl, rfl⟩)
    | (go_at_call 50; refine hp.mono ?_; rintro e w1 ⟨rfl, hs⟩; have HS1 := Aside0.mk hs; clear hs))
  go_end0
  exact ⟨rfl, HS1.out⟩
theorem Bt.tail {ok : Nat → Prop} {w : World} {g off n : Nat} (h : Bt ok w g off n) (k : Nat) (hk : k ≤ n) : Bt ok w g (off + k) (n - k) := by
  obtain ⟨cs, e, hb, hc⟩ := h.blk
  exact ⟨h.mine, cs, e, hb, fun j hj => by rw [Nat.add_assoc]; exact hc (k + j) (by omega)⟩
theorem Bt.zeros {ok : Nat → Prop} {g : Nat} : ∀ (m off n : Nat) (w : World), Bt ok w g off n → m ≤ n → Sim ok w (w.setCells g off (List.replicate m (.int .u8 0)))
  | 0, _, _, w, _, _ => Sim.refl _ w
  | m + 1, off, n, w, h, hm => by
    have h1 := h.put 0 (by omega) 0
    have h2 := Bt.zeros m (off + 1) (n - 1) _ ((h.sim h1).tail 1 (by omega)) (by omega)
    exact h1.trans h2
set_option maxHeartbeats 8000000 in
set_option maxRecDepth 100000 in
theorem cpt_b (ok : Nat → Prop) (g off n cap : Nat) (w : World) (hB : Bt ok w g off n) (hn : n < 4611686018427387904) (hcap : n ≤ cap) :
    Calls Try.prog 46 #[.slice (some ⟨g, off, none⟩) n cap] w fun e w' => (∃ v, e = .returned v) ∧ Sim ok w w' := by
  go_enter Try.func46, Try.ntmps46
  have HS := Aside0.mk (Sim.refl ok w)
  go_wp2
  · go_ret
    exact ⟨⟨_, rfl⟩, HS.out⟩
  · go_loopg [3] (n - 1) (fun m v3 wr => ∃ k : Nat, v3 = .int .i64 k ∧ 1 ≤ k ∧ k ≤ n ∧ m = n - k ∧ Aside0 (Sim ok w wr))
    case atStart => exact ⟨1, rfl, Nat.le_refl _, by omega, rfl, HS⟩
    case round =>
      clear HS
      obtain ⟨k, rfl, r1, r2, hm, HS⟩ := hrel
      have HBt := Aside0.mk (hB.sim HS.out)
      obtain ⟨G, hcw, hfw⟩ := HBt.out.fam
      by_cases hk : k < n
      · cases hd : (G k == G (k - 1)) with
        | false =>
          go_wp2_with fail
          go_region
          go_wp2
          go_roundg (n - (k + 1))
          case measure => omega
          case rel => exact ⟨k + 1, by first | rfl | (congr 1; omega), by omega, by omega, rfl, ⟨HS.out.drew⟩⟩
        | true =>
          go_wp2_with fail
          go_region
          go_wp2
          clear hcw hfw
          go_loopg [3, 5] (n - k - 1) (fun m v3 v5 wr => ∃ kk k2 : Nat, v3 = .int .i64 kk ∧ v5 = .int .i64 k2 ∧ 1 ≤ k2 ∧ k + k2 ≤ n ∧ kk + 1 ≤ k + k2 ∧ m = n - k - k2 ∧ Aside0 (Sim ok w wr))
          case atStart => exact ⟨k, 1, rfl, rfl, by omega, by omega, by omega, rfl, ⟨HS.out.drew⟩⟩
          case round =>
            clear HS
            obtain ⟨kk, k2, rfl, rfl, q1, q2, q3, hm2, HS⟩ := hrel
            have HBt2 := Aside0.mk (hB.sim HS.out)
            by_cases hk2 : k + k2 < n
            · have h2z : (k2 : Int) < (n : Int) - (k : Int) := by omega
              obtain ⟨G2, hcw2, hfw2⟩ := (HBt2.out.tail k (by omega)).fam
              cases hd2 : (G2 k2 == G2 (k2 - 1)) with
              | true =>
                go_wp2_with fail
                go_region
                go_wp2
                go_roundg (n - k - (k2 + 1))
                case measure => omega
                case rel => exact ⟨kk, k2 + 1, rfl, by first | rfl | (congr 1; omega), by omega, by omega, by omega, rfl, ⟨HS.out.drew⟩⟩
              | false =>
                go_wp2_with fail
                go_region
                obtain ⟨G, hcw, hfw⟩ := HBt2.out.fam
                go_wp2
                go_roundg (n - k - (k2 + 1))
                case measure => omega
                case rel => exact ⟨kk + 1, k2 + 1, by first | rfl | (congr 1; omega), by first | rfl | (congr 1; omega), by omega, by omega, by omega, rfl, ⟨HS.out.trans (HBt2.out.put kk (by omega) _).drew⟩⟩
            · have h2z : decide ((k2 : Int) < (n : Int) - (k : Int)) = false := decide_eq_false (by omega)
              obtain ⟨G, hcw, hfw⟩ := HBt2.out.fam
              have hcl : ∀ ty, (Builtin.clear_ #[22] ty #[.slice (some ⟨g, off + kk, none⟩) (n - kk) (cap - kk)]).run Try.prog wr = .ok (.tuple #[]) (wr.setCells g (off + kk) (List.replicate (n - kk) (.int .u8 0))) := fun ty =>
                Go.Lib.run_clear_slice wr 22 5 ty (.int .u8 0) Try.underlying22 (fun w => by kernel_rfl) rfl rfl g (off + kk) (n - kk) (cap - kk) (by omega) (fun j hj => by rw [Nat.add_assoc, hcw (kk + j) (by omega)]; rfl) (fun j hj => by rw [Nat.add_assoc]; exact hfw (kk + j) (by omega))
              clear hcw hfw
              go_wp2_with (simp only [hcl])
              go_ret
              exact ⟨⟨_, rfl⟩, HS.out.trans (Bt.zeros (n - kk) (off + kk) (n - kk) _ (HBt2.out.tail kk (by omega)) (Nat.le_refl _))⟩
      · have : k = n := by omega
        subst this
        go_wp2
        go_ret
        exact ⟨⟨_, rfl⟩, HS.out⟩
theorem below_sim {B g : Nat} {w0 w w' : World} (h : Below B w0 w) (hs : Sim (fun k => k = g) w w') (hg : B ≤ g) (hlt : g < w.heap.size) : Below B w0 w' :=
  ⟨hs.os.trans h.os, hs.tape.trans h.tape, hs.output.trans h.output, Nat.le_trans h.size hs.size, fun k hk => (hs.off k (by omega) (by omega)).trans (h.block k hk)⟩
theorem Bt.lt {ok : Nat → Prop} {w : World} {g off n : Nat} (h : Bt ok w g off n) : g < w.heap.size := by
  obtain ⟨cs, e, hb, _⟩ := h.blk
  exact (Array.getElem?_eq_some_iff.1 hb).1
def Byt (w0 w : World) (u : Value) : Prop := u = .slice none 0 0 ∨ ∃ g n cap, u = .slice (some ⟨g, 0, none⟩) n cap ∧ n ≤ cap ∧ n < 4611686018427387904 ∧ w0.heap.size ≤ g ∧ Bt (fun k => k = g) w g 0 n
theorem Byt.drewN {w0 w : World} {u : Value} (h : Byt w0 w u) (m : Nat) : Byt w0 (w.drewN m) u := by
  rcases h with h | ⟨g, n, cap, h1, h2, h3, h4, h5⟩
  · exact .inl h
  · exact .inr ⟨g, n, cap, h1, h2, h3, h4, h5.sim (Sim.drewN (Sim.refl _ w) m)⟩
theorem Byt.drew {w0 w : World} {u : Value} (h : Byt w0 w u) : Byt w0 w.drew u := by
  rcases h with h | ⟨g, n, cap, h1, h2, h3, h4, h5⟩
  · exact .inl h
  · exact .inr ⟨g, n, cap, h1, h2, h3, h4, h5.sim (Sim.drew (Sim.refl _ w))⟩
theorem Byt.of_R {w0 w : World} {u : Value} {ok : Nat → Prop} {xs : List Int} (h : Kd.R (Kd.int .u8) 5 w w0.heap.size ok u xs) (hn : xs.length < 4611686018427387904) : Byt w0 w u := by
  have hown := Kd.own_of_R h
  rcases hown.2 with ⟨hv, _⟩ | ⟨g, cap, cur, hv, hbase, hb, h1, h2, h3, h4⟩
  · exact .inl hv
  · refine .inr ⟨g, xs.length, cap, hv, h1, hn, hbase, rfl, cur, _, hb, fun j hj => ?_⟩
    refine ⟨xs[j], ?_⟩
    have e := congrArg (fun l : List Value => l[j]?) h4
    simp only [Nat.mul_one] at e
    rw [List.getElem?_take_of_lt hj] at e
    rw [Nat.zero_add]
    simpa [encs, hj] using e
set_option maxHeartbeats 4000000 in
set_option maxRecDepth 100000 in
theorem ins_nil (w : World) : Calls Try.prog 53 #[.slice none 0 0, .int .i64 0, .int .i64 0] w fun e w' => e = .returned (.tuple #[]) ∧ w' = w := by
  go_enter Try.func53, Try.ntmps53
  go_wp2
  go_loopg [6] 0 (fun m v3 wr => v3 = .int .i64 1 ∧ wr = w)
  case atStart => exact ⟨by go_num, rfl⟩
  case round =>
    obtain ⟨rfl, rfl⟩ := hrel
    go_wp2
    go_end0
    exact ⟨rfl, rfl⟩
set_option maxHeartbeats 4000000 in
set_option maxRecDepth 100000 in
theorem pdq_nil (l : Int) (w : World) : Calls Try.prog 50 #[.slice none 0 0, .int .i64 0, .int .i64 0, .int .i64 l] w fun e w' => e = .returned (.tuple #[]) ∧ w' = w := by
  go_enter Try.func50, Try.ntmps50
  go_wp2
  go_loopg [1, 2, 3, 8, 9] 0 (fun m v1 v2 v3 v8 v9 wr => v1 = .int .i64 0 ∧ v2 = .int .i64 0 ∧ wr = w)
  case atStart => exact ⟨rfl, rfl, rfl⟩
  case round =>
    obtain ⟨rfl, rfl, rfl⟩ := hrel
    go_wp2_with (go_at_call 53; refine (ins_nil _).mono ?_; rintro e w1 ⟨rfl, rfl⟩)
    (try simp only [Exit.inBlock, Exit.then])
    refine bodyPost_ret (results_none rfl _ _ _) rfl ?_
    exact ⟨rfl, rfl⟩
theorem sort_nil (w : World) : Calls Try.prog 45 #[.slice none 0 0] w fun e w' => e = .returned (.tuple #[]) ∧ w' = w := by
  have hc := Try.bits_Len 0 w (by omega) (by omega)
  go_enter Try.func45, Try.ntmps45
  go_wp2_with (first
    | (go_at_call 51; refine hc.mono ?_; rintro e w' ⟨rfl, rfl⟩)
    | (go_at_call 50; refine (pdq_nil _ _).mono ?_; rintro e w1 ⟨rfl, rfl⟩))
  go_end0
  exact ⟨rfl, rfl⟩
theorem cpt_nil (w : World) : Calls Try.prog 46 #[.slice none 0 0] w fun e w' => (∃ v, e = .returned v) ∧ w' = w := by
  go_enter Try.func46, Try.ntmps46
  go_wp2
  go_ret
  exact ⟨⟨_, rfl⟩, rfl⟩
theorem sortB (u : Value) (w0 w : World) (hB : Below w0.heap.size w0 w) (h : Byt w0 w u) : Calls Try.prog 45 #[u] w fun e w' => e = .returned (.tuple #[]) ∧ Byt w0 w' u ∧ Below w0.heap.size w0 w' := by
  rcases h with rfl | ⟨g, n, cap, rfl, h2, h3, h4, h5⟩
  · exact (sort_nil w).mono fun e w' ⟨he, hw⟩ => ⟨he, .inl rfl, hw ▸ hB⟩
  · exact (sort_b _ g 0 n cap w h5 h3).mono fun e w' ⟨he, hs⟩ => ⟨he, .inr ⟨g, n, cap, rfl, h2, h3, h4, h5.sim hs⟩, below_sim hB hs h4 h5.lt⟩
theorem cptB (u : Value) (w0 w : World) (hB : Below w0.heap.size w0 w) (h : Byt w0 w u) : Calls Try.prog 46 #[u] w fun e w' => (∃ v, e = .returned v) ∧ Below w0.heap.size w0 w' := by
  rcases h with rfl | ⟨g, n, cap, rfl, h2, h3, h4, h5⟩
  · exact (cpt_nil w).mono fun e w' ⟨he, hw⟩ => ⟨he, hw ▸ hB⟩
  · exact (cpt_b _ g 0 n cap w h5 h3 h2).mono fun e w' ⟨he, hs⟩ => ⟨he, below_sim hB hs h4 h5.lt⟩

end Go.Proofs.Ytceimgnkkclebaa.Wk
