/- Written by a program of this session out of Lean's print of the translation: what the calls of these Go functions come to, in plain Lean. No condition. -/
import Derived.Test.YthnokfmpogekoaaPFnExactCallsOfx0
import Derived.Test.YthnokfmpogekoaaPFnExactCallsOfx9
namespace Go.Proofs.Ythnokfmpogekoaa.PFnExactCallsOf
open Go.RowKit Go.Proofs.YthnokfmpogekoaaW.PrintWords Go.Proofs.YthnokfmpogekoaaW.PrintLast Go.Proofs.YthnokfmpogekoaaW.PrintMore
attribute [local go_sem] max2_int min2_int max_two min_two max_three min_three max_four min_four   -- for this text's walks alone
set_option linter.unusedVariables false
set_option linter.unusedSimpArgs false

/-! ### laws_markGrammar: function 10 -/
/-! ### What writes whole numbers and strings into rows of rows, whatever they share: the rows' form stays -/
/-- Cells of one tag. -/
inductive Alike : Value → Value → Prop
  | refl (v : Value) : Alike v v
  | int (k : IntKind) (x y : Int) : Alike (.int k x) (.int k y)
  | str (x y : ByteArray) : Alike (.string x) (.string y)
theorem Alike.trans {u v z : Value} (h : Alike u v) (k : Alike v z) : Alike u z := by
  cases h with
  | refl => exact k
  | int a x y => cases k with
    | refl => exact .int _ _ _
    | int => exact .int _ _ _
  | str x y => cases k with
    | refl => exact .str _ _
    | str => exact .str _ _
/-- From w to w' nothing has turned but numbers and strings in blocks of ok; what is new is new. -/
structure Sim (ok : Nat → Prop) (w w' : World) : Prop where
  os : w'.os = w.os
  tape : w'.tape = w.tape
  output : w'.output = w.output
  size : w.heap.size ≤ w'.heap.size
  off : ∀ i : Nat, i < w.heap.size → ¬ ok i → w'.heap[i]? = w.heap[i]?
  on : ∀ (i : Nat) (cs : Array Value) (e : Nat), w.heap[i]? = some (Obj.cells cs e (0, 0)) → ∃ cs' : Array Value, w'.heap[i]? = some (Obj.cells cs' e (0, 0)) ∧ ∀ (j : Nat) (u : Value), cs[j]? = some u → ∃ u', cs'[j]? = some u' ∧ Alike u u'
theorem Sim.refl (ok : Nat → Prop) (w : World) : Sim ok w w := ⟨rfl, rfl, rfl, Nat.le_refl _, fun _ _ _ => rfl, fun _ cs _ h => ⟨cs, h, fun _ u hu => ⟨u, hu, .refl u⟩⟩⟩
theorem Sim.trans {ok : Nat → Prop} {w w1 w2 : World} (h : Sim ok w w1) (k : Sim ok w1 w2) : Sim ok w w2 := by
  refine ⟨k.os.trans h.os, k.tape.trans h.tape, k.output.trans h.output, Nat.le_trans h.size k.size, fun i hi hn => (k.off i (Nat.lt_of_lt_of_le hi h.size) hn).trans (h.off i hi hn), fun i cs e hc => ?_⟩
  obtain ⟨c1, h1, a1⟩ := h.on i cs e hc
  obtain ⟨c2, h2, a2⟩ := k.on i c1 e h1
  refine ⟨c2, h2, fun j u hu => ?_⟩
  obtain ⟨u1, e1, b1⟩ := a1 j u hu
  obtain ⟨u2, e2, b2⟩ := a2 j u1 e1
  exact ⟨u2, e2, b1.trans b2⟩
theorem Sim.of_below {ok : Nat → Prop} {w w' : World} (h : Below w.heap.size w w') : Sim ok w w' := by
  refine ⟨h.os, h.tape, h.output, h.size, fun i hi _ => h.block i hi, fun i cs e hc => ?_⟩
  have hi : i < w.heap.size := (Array.getElem?_eq_some_iff.1 hc).1
  exact ⟨cs, (h.block i hi).trans hc, fun _ u hu => ⟨u, hu, .refl u⟩⟩
theorem Sim.set {ok : Nat → Prop} {w : World} {g e : Nat} {cs : Array Value} (hb : w.heap[g]? = some (.cells cs e (0, 0))) {j : Nat} {u0 u : Value} (hu : cs[j]? = some u0) (ha : Alike u0 u) (hg : ok g) : Sim ok w (w.setCell ⟨g, j, none⟩ u) := by
  refine ⟨rfl, rfl, rfl, by simp [World.setCell], fun i _ hn => Below.heap_setCell w ⟨g, j, none⟩ u i (fun e => hn (e ▸ hg)), fun i c2 e2 hc => ?_⟩
  by_cases hi : i = g
  · subst hi
    rw [hb] at hc
    injection hc with hc
    injection hc with h1 h2
    subst h1 h2
    refine ⟨cs.setIfInBounds j u, blk_put hb j u rfl, fun q z hz => ?_⟩
    by_cases hq : q = j
    · subst hq
      have hlt : q < cs.size := (Array.getElem?_eq_some_iff.1 hu).1
      refine ⟨u, by simp [hlt], ?_⟩
      rw [hu] at hz
      have := Option.some.inj hz
      subst this
      exact ha
    · exact ⟨z, by simpa [Array.getElem?_setIfInBounds, Ne.symm hq] using hz, .refl z⟩
  · exact ⟨c2, (Below.heap_setCell w ⟨g, j, none⟩ u i hi).trans hc, fun _ z hz => ⟨z, hz, .refl z⟩⟩
/-- A cell's form, with how many marks it takes. -/
abbrev Fm := World → Value → Nat → Prop
def Fm.int (k : IntKind) : Fm := fun _ v c => (∃ x, v = .int k x) ∧ c = 1
def Fm.str : Fm := fun _ v c => (∃ x, v = .string x) ∧ c = 1
def Fm.sl (ok : Nat → Prop) (e : Nat) (fs : List Fm) : Fm := fun w v c => ∃ A n cap, ∃ L : List Nat, v = .slice A n cap ∧ n ≤ 9223372036854775807 ∧ L.length = n ∧ c = L.sum ∧ ∀ (i ci : Nat), L[i]? = some ci → ∃ (g : Nat) (cells : Array Value), ∃ cs : List Nat, A = some ⟨g, 0, none⟩ ∧ ok g ∧ w.heap[g]? = some (.cells cells e (0, 0)) ∧ cs.length = fs.length ∧ ci = cs.sum ∧ ∀ (j : Nat) (f : Fm) (cj : Nat), fs[j]? = some f → cs[j]? = some cj → ∃ u, cells[i * fs.length + j]? = some u ∧ f w u cj
def Fm.Stays (ok : Nat → Prop) (f : Fm) : Prop := ∀ w w' u u' c, Sim ok w w' → Alike u u' → f w u c → f w' u' c
theorem Fm.int_stays (ok : Nat → Prop) (k : IntKind) : (Fm.int k).Stays ok := by
  rintro w w' u u' c _ ha ⟨⟨x, rfl⟩, rfl⟩
  cases ha with
  | refl => exact ⟨⟨_, rfl⟩, rfl⟩
  | int => exact ⟨⟨_, rfl⟩, rfl⟩
theorem Fm.str_stays (ok : Nat → Prop) : Fm.str.Stays ok := by
  rintro w w' u u' c _ ha ⟨⟨x, rfl⟩, rfl⟩
  cases ha with
  | refl => exact ⟨⟨_, rfl⟩, rfl⟩
  | str => exact ⟨⟨_, rfl⟩, rfl⟩
theorem Fm.sl_stays (ok : Nat → Prop) (e : Nat) (fs : List Fm) (hf : ∀ f ∈ fs, f.Stays ok) : (Fm.sl ok e fs).Stays ok := by
  rintro w w' u u' c hs ha ⟨A, n, cap, L, rfl, hn, hl, rfl, hL⟩
  cases ha with
  | refl =>
    refine ⟨A, n, cap, L, rfl, hn, hl, rfl, fun i ci hi => ?_⟩
    obtain ⟨g, cells, cs, hA, hg, hb, hcl, hci, hc⟩ := hL i ci hi
    obtain ⟨cells', hb', hall⟩ := hs.on g cells e hb
    refine ⟨g, cells', cs, hA, hg, hb', hcl, hci, fun j f cj hj hcj => ?_⟩
    obtain ⟨u, hu, hfu⟩ := hc j f cj hj hcj
    obtain ⟨u', hu', ha'⟩ := hall _ u hu
    exact ⟨u', hu', hf f (List.mem_of_getElem? hj) w w' u u' cj hs ha' hfu⟩
/-- What a kind of element comes to, cell by cell. -/
def Forms {α : Type} (d : Kd α) (fs : List Fm) (ok : Nat → Prop) (cnt : α → Nat) : Prop := d.sz = fs.length ∧ ∀ (w : World) (base : Nat) (ok' : Nat → Prop) (x : α) (cs : List Value), d.M w base ok' x cs → (∀ k, ok' k → ok k) → ∃ ns : List Nat, ns.length = fs.length ∧ cnt x = ns.sum ∧ ∀ (j : Nat) (f : Fm) (n : Nat), fs[j]? = some f → ns[j]? = some n → ∃ u, cs[j]? = some u ∧ f w u n
theorem Forms.int (ok : Nat → Prop) (k : IntKind) : Forms (Kd.int k) [Fm.int k] ok (fun _ => 1) := by
  refine ⟨rfl, fun w base ok' x cs h _ => ⟨[1], rfl, rfl, fun j f n hj hn => ?_⟩⟩
  have h : cs = [.int k x] := h
  subst h
  match j, hj, hn with
  | 0, hj, hn =>
    have := Option.some.inj hj
    have := Option.some.inj hn
    subst_vars
    exact ⟨_, rfl, ⟨_, rfl⟩, rfl⟩
theorem Forms.string (ok : Nat → Prop) : Forms Kd.string [Fm.str] ok (fun _ => 1) := by
  refine ⟨rfl, fun w base ok' x cs h _ => ⟨[1], rfl, rfl, fun j f n hj hn => ?_⟩⟩
  have h : cs = [.string x] := h
  subst h
  match j, hj, hn with
  | 0, hj, hn =>
    have := Option.some.inj hj
    have := Option.some.inj hn
    subst_vars
    exact ⟨_, rfl, ⟨_, rfl⟩, rfl⟩
theorem Forms.pair {α β : Type} {a : Kd α} {b : Kd β} {fa fb : List Fm} {ok : Nat → Prop} {ca : α → Nat} {cb : β → Nat} (h : Forms a fa ok ca) (g : Forms b fb ok cb) : Forms (Kd.pair a b) (fa ++ fb) ok (fun x => ca x.1 + cb x.2) := by
  refine ⟨by show a.sz + b.sz = _; rw [h.1, g.1, List.length_append], fun w base ok' x cs hM hok => ?_⟩
  obtain ⟨c0, c1, rfl, h0, h1⟩ := hM
  obtain ⟨n0, l0, s0, e0⟩ := h.2 w base ok' x.1 c0 h0 hok
  obtain ⟨n1, l1, s1, e1⟩ := g.2 w base ok' x.2 c1 h1 hok
  have hc0 : c0.length = fa.length := (a.K_len (a.K_of_M h0)).trans h.1
  refine ⟨n0 ++ n1, by rw [List.length_append, l0, l1, List.length_append], by rw [List.sum_append, ← s0, ← s1], fun j f n hj hn => ?_⟩
  rcases Nat.lt_or_ge j fa.length with hlt | hge
  · rw [List.getElem?_append_left hlt] at hj
    rw [List.getElem?_append_left (by omega)] at hn
    obtain ⟨u, hu, hf⟩ := e0 j f n hj hn
    exact ⟨u, by rw [List.getElem?_append_left (by omega)]; exact hu, hf⟩
  · rw [List.getElem?_append_right hge] at hj
    rw [List.getElem?_append_right (by omega)] at hn
    obtain ⟨u, hu, hf⟩ := e1 (j - fa.length) f n hj (by rw [← l0]; exact hn)
    exact ⟨u, by rw [List.getElem?_append_right (by omega), hc0]; exact hu, hf⟩
theorem Forms.iso {α β : Type} {d : Kd α} {fs : List Fm} {ok : Nat → Prop} {c : α → Nat} (h : Forms d fs ok c) (f : β → α) : Forms (Kd.iso d f) fs ok (fun x => c (f x)) := ⟨h.1, fun w base ok' x cs hM hok => h.2 w base ok' (f x) cs hM hok⟩
theorem Fm.of_R {α : Type} {d : Kd α} {fs : List Fm} {ok ok' : Nat → Prop} {cnt : α → Nat} {e base : Nat} {w : World} {v : Value} {xs : List α} (h : Forms d fs ok cnt) (hR : d.R e w base ok' v xs) (hok : ∀ k, ok' k → ok k) : Fm.sl ok e fs w v ((xs.map cnt).sum) := by
  obtain ⟨h0, inner, ho, hr⟩ := hR
  rcases ho.2 with ⟨rfl, hn⟩ | ⟨g, cap, cur, rfl, hbase, hb, h1, h2, h3, h4⟩
  · have : xs = [] := List.eq_nil_of_length_eq_zero hn
    subst this
    exact ⟨none, 0, 0, [], rfl, by omega, rfl, rfl, fun i ci hi => by simp at hi⟩
  · refine ⟨_, _, _, xs.map cnt, rfl, ?_, by simp, rfl, fun i ci hi => ?_⟩
    · have : maxLen ≤ 9223372036854775807 := by decide
      omega
    · rw [List.getElem?_map] at hi
      obtain ⟨x, hx, rfl⟩ := Option.map_eq_some_iff.1 hi
      have hil : i < xs.length := (List.getElem?_eq_some_iff.1 hx).1
      obtain ⟨ns, hl, hs, hc⟩ := h.2 w base _ x _ (hr.2 i x hx) (fun k hk => hok k hk.1)
      refine ⟨g, cur, ns, rfl, hok g (h0 g (by simp [Value.ownBlock])), hb, hl, hs, fun j f cj hj hcj => ?_⟩
      obtain ⟨u, hu, hf⟩ := hc j f cj hj hcj
      refine ⟨u, ?_, hf⟩
      have hjl : j < d.sz := by rw [h.1]; exact (List.getElem?_eq_some_iff.1 hj).1
      rw [List.getElem?_take_of_lt hjl, List.getElem?_drop, ← h4, h.1] at hu
      have hlt : i * fs.length + j < xs.length * d.sz := by
        rw [← h.1]
        have : i * d.sz + d.sz ≤ xs.length * d.sz := by rw [← Nat.succ_mul]; exact Nat.mul_le_mul_right _ hil
        omega
      rw [← h.1] at hu ⊢
      rw [← h.1] at hlt
      rw [List.getElem?_take_of_lt hlt, Array.getElem?_toList] at hu
      exact hu
theorem Forms.slice {α : Type} {d : Kd α} {fs : List Fm} {ok : Nat → Prop} {cnt : α → Nat} (h : Forms d fs ok cnt) (e : Nat) : Forms (Kd.slice e d) [Fm.sl ok e fs] ok (fun xs => (xs.map cnt).sum) := by
  refine ⟨rfl, fun w base ok' x cs hM hok => ?_⟩
  obtain ⟨v, rfl, hR⟩ := hM
  refine ⟨[(x.map cnt).sum], rfl, by simp, fun j f n hj hn => ?_⟩
  match j, hj, hn with
  | 0, hj, hn =>
    have := Option.some.inj hj
    have := Option.some.inj hn
    subst_vars
    exact ⟨_, rfl, Fm.of_R h hR hok⟩
/-- Element i of a row, cell by cell. -/
structure El (ok : Nat → Prop) (e : Nat) (fs : List Fm) (w : World) (g i : Nat) (cs : List Nat) : Prop where
  mine : ok g
  len : cs.length = fs.length
  blk : ∃ cells : Array Value, w.heap[g]? = some (Obj.cells cells e (0, 0)) ∧ ∀ (j : Nat) (f : Fm) (cj : Nat), fs[j]? = some f → cs[j]? = some cj → ∃ u, cells[i * fs.length + j]? = some u ∧ f w u cj
theorem El.sim {ok : Nat → Prop} {e : Nat} {fs : List Fm} {w wl : World} {g i : Nat} {cs : List Nat} (h : El ok e fs w g i cs) (hs : Sim ok w wl) (hst : ∀ f ∈ fs, f.Stays ok) : El ok e fs wl g i cs := by
  refine ⟨h.mine, h.len, ?_⟩
  obtain ⟨cells, hb, hc⟩ := h.blk
  obtain ⟨cells', hb', hall⟩ := hs.on g cells e hb
  refine ⟨cells', hb', fun j f cj hj hcj => ?_⟩
  obtain ⟨u, hu, hf⟩ := hc j f cj hj hcj
  obtain ⟨u', hu', ha⟩ := hall _ u hu
  exact ⟨u', hu', hst f (List.mem_of_getElem? hj) w wl u u' cj hs ha hf⟩
theorem El.cell {ok : Nat → Prop} {e : Nat} {fs : List Fm} {w : World} {g i : Nat} {cs : List Nat} (h : El ok e fs w g i cs) (j : Nat) {f : Fm} {cj : Nat} (hj : fs[j]? = some f) (hcj : cs[j]? = some cj) : ∃ u, w.cell? ⟨g, i * fs.length + j, none⟩ = some u ∧ w.frozen? ⟨g, i * fs.length + j, none⟩ = false ∧ f w u cj ∧ ∀ y, Alike u y → Sim ok w (w.setCell ⟨g, i * fs.length + j, none⟩ y) := by
  obtain ⟨cells, hb, hc⟩ := h.blk
  obtain ⟨u, hu, hf⟩ := hc j f cj hj hcj
  exact ⟨u, (blk_cell hb _).trans hu, blk_frozen hb _, hf, fun y hy => Sim.set hb hu hy h.mine⟩
theorem El.int {ok : Nat → Prop} {e : Nat} {fs : List Fm} {w : World} {g i : Nat} {cs : List Nat} (h : El ok e fs w g i cs) (j : Nat) {k : IntKind} {cj : Nat} (hj : fs[j]? = some (Fm.int k)) (hcj : cs[j]? = some cj) : ∃ x, w.cell? ⟨g, i * fs.length + j, none⟩ = some (.int k x) ∧ w.frozen? ⟨g, i * fs.length + j, none⟩ = false ∧ ∀ y, Sim ok w (w.setCell ⟨g, i * fs.length + j, none⟩ (.int k y)) := by
  obtain ⟨u, hu, hz, ⟨⟨x, rfl⟩, _⟩, hs⟩ := h.cell j hj hcj
  exact ⟨x, hu, hz, fun y => hs _ (.int _ _ _)⟩
theorem El.str {ok : Nat → Prop} {e : Nat} {fs : List Fm} {w : World} {g i : Nat} {cs : List Nat} (h : El ok e fs w g i cs) (j : Nat) {cj : Nat} (hj : fs[j]? = some Fm.str) (hcj : cs[j]? = some cj) : ∃ x, w.cell? ⟨g, i * fs.length + j, none⟩ = some (.string x) ∧ w.frozen? ⟨g, i * fs.length + j, none⟩ = false ∧ ∀ y, Sim ok w (w.setCell ⟨g, i * fs.length + j, none⟩ (.string y)) := by
  obtain ⟨u, hu, hz, ⟨⟨x, rfl⟩, _⟩, hs⟩ := h.cell j hj hcj
  exact ⟨x, hu, hz, fun y => hs _ (.str _ _)⟩
theorem El.one {ok : Nat → Prop} {e : Nat} {fs : List Fm} {w : World} {g i : Nat} {cs : List Nat} (h : El ok e fs w g i cs) (j : Nat) {k : IntKind} {cj : Nat} (hj : fs[j]? = some (Fm.int k)) (hcj : cs[j]? = some cj) : cj = 1 := by
  obtain ⟨u, _, _, ⟨_, hc⟩, _⟩ := h.cell j hj hcj
  exact hc
theorem El.oneS {ok : Nat → Prop} {e : Nat} {fs : List Fm} {w : World} {g i : Nat} {cs : List Nat} (h : El ok e fs w g i cs) (j : Nat) {cj : Nat} (hj : fs[j]? = some Fm.str) (hcj : cs[j]? = some cj) : cj = 1 := by
  obtain ⟨u, _, _, ⟨_, hc⟩, _⟩ := h.cell j hj hcj
  exact hc
/-- A row's form, opened. -/
theorem Fm.open_ {ok : Nat → Prop} {e : Nat} {fs : List Fm} {w : World} {v : Value} {c : Nat} (h : Fm.sl ok e fs w v c) : ∃ A n cap, ∃ L : List Nat, v = .slice A n cap ∧ n ≤ 9223372036854775807 ∧ L.length = n ∧ c = L.sum ∧ ∀ i : Int, 0 ≤ i → i < n → ∃ g cs, A = some ⟨g, 0, none⟩ ∧ El ok e fs w g i.toNat cs ∧ (L.take (i.toNat + 1)).sum = (L.take i.toNat).sum + cs.sum ∧ (L.take (i.toNat + 1)).sum ≤ c := by
  obtain ⟨A, n, cap, L, rfl, hn, hl, rfl, hL⟩ := h
  refine ⟨A, n, cap, L, rfl, hn, hl, rfl, fun i h0 h1 => ?_⟩
  have hlt : i.toNat < L.length := by omega
  obtain ⟨g, cells, cs, hA, hg, hb, hcl, hci, hc⟩ := hL i.toNat _ (List.getElem?_eq_getElem hlt)
  refine ⟨g, cs, hA, ⟨hg, hcl, cells, hb, hc⟩, ?_, ?_⟩
  · rw [List.take_add_one, List.getElem?_eq_getElem hlt, List.sum_append, hci]
    simp [hci]
  · have := congrArg List.sum (List.take_append_drop (i.toNat + 1) L)
    rw [List.sum_append] at this
    omega
/-- A number's mark is a text. -/
theorem markText_loop : ∀ (n : Nat) (x : Int) (s : ByteArray), x.toNat ≤ n → x < 4611686018427387904 → s.size + x.toNat ≤ 4611686018427387904 + 100 → ∃ k t, laws_markText.l0 k x s = some t := by
  intro n
  induction n with
  | zero =>
    intro x s hx _ hs
    refine ⟨1, (⟨#[109]⟩ : ByteArray) ++ s, ?_⟩
    have h0 : ¬ x > 0 := by omega
    simp only [laws_markText.l0, if_neg h0]
    rw [if_pos (by omega)]
  | succ n ih =>
    intro x s hx hlt hs
    by_cases h0 : x > 0
    · have e1 : Int.tdiv x 10 = x / 10 := Int.tdiv_eq_ediv_of_nonneg (by omega)
      have e2 : wrap64 (Int.tdiv x 10) = x / 10 := by rw [e1]; exact IntWalk.wrap64_in _ ⟨by omega, by omega⟩
      obtain ⟨k, t, ht⟩ := ih (x / 10) ((strOfNums ([(wrap64 (48 + (Int.tmod x 10))) % 256] : List Int)) ++ s) (by omega) (by omega) (by
        have : (strOfNums ([(wrap64 (48 + (Int.tmod x 10))) % 256] : List Int)).size = 1 := rfl
        rw [ByteArray.size_append, this]
        omega)
      refine ⟨k + 1, t, ?_⟩
      simp only [laws_markText.l0, if_pos h0, Option.bind_some]
      have : (strOfNums ([(wrap64 (48 + (Int.tmod x 10))) % 256] : List Int)).size = 1 := rfl
      rw [if_pos (by rw [this]; omega), e2]
      exact ht
    · refine ⟨1, (⟨#[109]⟩ : ByteArray) ++ s, ?_⟩
      simp only [laws_markText.l0, if_neg h0]
      rw [if_pos (by omega)]
theorem markText_some (x : Int) (h : x < 4611686018427387904) : ∃ k t, laws_markText.f k x = some t := by
  by_cases h0 : x ≤ 0
  · exact ⟨0, _, by unfold laws_markText.f; rw [if_pos h0]⟩
  · obtain ⟨k, t, ht⟩ := markText_loop x.toNat x ⟨#[]⟩ (Nat.le_refl _) h (by show 0 + _ ≤ _; omega)
    exact ⟨k, t, by unfold laws_markText.f; rw [if_neg h0]; exact ht⟩
def fs_Int (ok : Nat → Prop) : List Fm := [Fm.int .i64]
theorem fs_Int_stays (ok : Nat → Prop) : ∀ f ∈ fs_Int ok, f.Stays ok := by
  intro f hf
  simp only [fs_Int, List.mem_cons, List.not_mem_nil, or_false] at hf
  subst hf
  exact Fm.int_stays _ _
set_option maxHeartbeats 4000000 in
set_option maxRecDepth 100000 in
theorem mark_Int (ok : Nat → Prop) (w : World) (v : Value) (c : Nat) (k : Int) (hf : Fm.sl ok 3 (fs_Int ok) w v c) (hk0 : 0 ≤ k) (hk1 : k + c < 4611686018427387904) :
    Calls Try.prog 64 #[v, .int .i64 k] w fun e w' => e = .returned (.int .i64 (k + c)) ∧ Sim ok w w' := by
  obtain ⟨A, n, cap, L, rfl, hn, hl, hc, hL⟩ := Fm.open_ hf
  have HL := Aside0.mk hL
  have HC := Aside0.mk hc
  have HK := Aside0.mk (show 0 ≤ k ∧ k + c < 4611686018427387904 from ⟨hk0, hk1⟩)
  have HN := Aside0.mk hn
  have HLL := Aside0.mk hl
  clear hL hc hk0 hk1 hn hl hf
  go_enter Try.func64, Try.ntmps64
  go_wp2
  go_loopg [1, 5] n (fun m v1 v5 wl => ∃ i K : Int, v1 = .int .i64 K ∧ v5 = .int .i64 i ∧ Aside0 (K = k + ((L.take i.toNat).sum : Nat) ∧ 0 ≤ i ∧ i ≤ n ∧ m = n - i.toNat) ∧ Aside0 (Sim ok w wl))
  case atStart => exact ⟨0, k, rfl, rfl, ⟨by simp, by omega, by omega, by simp⟩, ⟨Sim.refl _ _⟩⟩
  case round =>
    obtain ⟨i, K0, rfl, rfl, HI, HS0⟩ := hrel
    by_cases hlt : i < n
    · have d1 : decide (i < (n : Int)) = true := decide_eq_true hlt
      obtain ⟨g, cs, hA, hE, hsum, hle⟩ := HL.out i HI.out.2.1 hlt
      subst hA
      have HE0 := Aside0.mk (hE.sim HS0.out (fs_Int_stays ok))
      clear hE
      obtain ⟨c0, rfl⟩ : ∃ c0, cs = [c0] := by
        have h9 := HE0.out.len
        match cs, h9 with
        | [c0], _ => exact ⟨c0, rfl⟩
      have e0 : c0 = 1 := HE0.out.one 0 rfl rfl
      subst e0
      have HSUM := Aside0.mk (show (L.take (i.toNat + 1)).sum = (L.take i.toNat).sum + (1) ∧ (L.take (i.toNat + 1)).sum ≤ c from ⟨by rw [hsum]; simp <;> omega, hle⟩)
      have p1 : (0 ≤ i) = True := eq_true HI.out.2.1
      have p2 : (i < (n : Int)) = True := eq_true hlt
      have HLT := Aside0.mk hlt
      clear hlt hsum hle
      have HB0 := Aside0.mk (show 0 ≤ K0 ∧ K0 + (1) < 4611686018427387904 from by have := HI.out; have := HSUM.out; have := HK.out; omega)
      obtain ⟨x0, hz0, hf0, hs0⟩ := HE0.out.int 0 rfl rfl
      have HT0 := Aside0.mk (hs0 K0)
      clear hs0
      simp only [show (fs_Int ok).length = 1 from rfl, Nat.mul_one, Nat.add_zero] at hz0 hf0 HT0
      go_wp2
      go_roundg (n - (i.toNat + 1))
      case measure => have := HI.out; have := HLT.out; omega
      case rel => exact ⟨i + 1, K0 + 1, by rw [IntWalk.wrap64_in _ ⟨by have := HB0.out; omega, by have := HB0.out; omega⟩], by rw [IntWalk.wrap64_in _ ⟨by have := HI.out; omega, by have := HLT.out; have := HN.out; omega⟩], ⟨by rw [show (i + 1).toNat = i.toNat + 1 from by have := HI.out; omega]; have := HI.out; have := HSUM.out; omega, by have := HI.out; omega, by have := HLT.out; omega, by have := HI.out; omega⟩, ⟨HS0.out.trans HT0.out⟩⟩
    · have d1 : decide (i < (n : Int)) = false := decide_eq_false hlt
      have HLT := Aside0.mk hlt
      clear hlt
      go_wp2
      go_ret
      have hi : i.toNat = L.length := by have := HI.out; have := HLT.out; have := HLL.out; omega
      refine ⟨?_, HS0.out⟩
      have h9 := HI.out.1
      rw [hi, List.take_length, ← HC.out] at h9
      rw [← h9]
      rfl
def fs_String (ok : Nat → Prop) : List Fm := [Fm.str]
theorem fs_String_stays (ok : Nat → Prop) : ∀ f ∈ fs_String ok, f.Stays ok := by
  intro f hf
  simp only [fs_String, List.mem_cons, List.not_mem_nil, or_false] at hf
  subst hf
  exact Fm.str_stays _
set_option maxHeartbeats 4000000 in
set_option maxRecDepth 100000 in
theorem mark_String (ok : Nat → Prop) (w : World) (v : Value) (c : Nat) (k : Int) (hf : Fm.sl ok 9 (fs_String ok) w v c) (hk0 : 0 ≤ k) (hk1 : k + c < 4611686018427387904) :
    Calls Try.prog 11 #[v, .int .i64 k] w fun e w' => e = .returned (.int .i64 (k + c)) ∧ Sim ok w w' := by
  obtain ⟨A, n, cap, L, rfl, hn, hl, hc, hL⟩ := Fm.open_ hf
  have HL := Aside0.mk hL
  have HC := Aside0.mk hc
  have HK := Aside0.mk (show 0 ≤ k ∧ k + c < 4611686018427387904 from ⟨hk0, hk1⟩)
  have HN := Aside0.mk hn
  have HLL := Aside0.mk hl
  clear hL hc hk0 hk1 hn hl hf
  go_enter Try.func11, Try.ntmps11
  go_wp2
  go_loopg [1, 5] n (fun m v1 v5 wl => ∃ i K : Int, v1 = .int .i64 K ∧ v5 = .int .i64 i ∧ Aside0 (K = k + ((L.take i.toNat).sum : Nat) ∧ 0 ≤ i ∧ i ≤ n ∧ m = n - i.toNat) ∧ Aside0 (Sim ok w wl))
  case atStart => exact ⟨0, k, rfl, rfl, ⟨by simp, by omega, by omega, by simp⟩, ⟨Sim.refl _ _⟩⟩
  case round =>
    obtain ⟨i, K0, rfl, rfl, HI, HS0⟩ := hrel
    by_cases hlt : i < n
    · have d1 : decide (i < (n : Int)) = true := decide_eq_true hlt
      obtain ⟨g, cs, hA, hE, hsum, hle⟩ := HL.out i HI.out.2.1 hlt
      subst hA
      have HE0 := Aside0.mk (hE.sim HS0.out (fs_String_stays ok))
      clear hE
      obtain ⟨c0, rfl⟩ : ∃ c0, cs = [c0] := by
        have h9 := HE0.out.len
        match cs, h9 with
        | [c0], _ => exact ⟨c0, rfl⟩
      have e0 : c0 = 1 := HE0.out.oneS 0 rfl rfl
      subst e0
      have HSUM := Aside0.mk (show (L.take (i.toNat + 1)).sum = (L.take i.toNat).sum + (1) ∧ (L.take (i.toNat + 1)).sum ≤ c from ⟨by rw [hsum]; simp <;> omega, hle⟩)
      have p1 : (0 ≤ i) = True := eq_true HI.out.2.1
      have p2 : (i < (n : Int)) = True := eq_true hlt
      have HLT := Aside0.mk hlt
      clear hlt hsum hle
      have HB0 := Aside0.mk (show 0 ≤ K0 ∧ K0 + (1) < 4611686018427387904 from by have := HI.out; have := HSUM.out; have := HK.out; omega)
      obtain ⟨kt0, t0, ht0⟩ := markText_some K0 (by have := HB0.out; omega)
      have HX0 := Aside0.mk ht0
      clear ht0
      go_wp2_with (go_at_call 22; refine ((laws_markText.calls kt0 _ t0 _ HX0.out).mono ?_); rintro e wt0 ⟨rfl, hb0⟩; have HV0 := Aside0.mk (HE0.out.sim (Sim.of_below hb0) (fs_String_stays ok)); obtain ⟨x0, hz0, hf0, hs0⟩ := HV0.out.str 0 rfl rfl; have HT0 := Aside0.mk ((Sim.of_below (ok := ok) hb0).trans (hs0 t0)); clear hb0 hs0 HV0; simp only [show (fs_String ok).length = 1 from rfl, Nat.mul_one, Nat.add_zero] at hz0 hf0 HT0)
      go_roundg (n - (i.toNat + 1))
      case measure => have := HI.out; have := HLT.out; omega
      case rel => exact ⟨i + 1, K0 + 1, by rw [IntWalk.wrap64_in _ ⟨by have := HB0.out; omega, by have := HB0.out; omega⟩], by rw [IntWalk.wrap64_in _ ⟨by have := HI.out; omega, by have := HLT.out; have := HN.out; omega⟩], ⟨by rw [show (i + 1).toNat = i.toNat + 1 from by have := HI.out; omega]; have := HI.out; have := HSUM.out; omega, by have := HI.out; omega, by have := HLT.out; omega, by have := HI.out; omega⟩, ⟨HS0.out.trans HT0.out⟩⟩
    · have d1 : decide (i < (n : Int)) = false := decide_eq_false hlt
      have HLT := Aside0.mk hlt
      clear hlt
      go_wp2
      go_ret
      have hi : i.toNat = L.length := by have := HI.out; have := HLT.out; have := HLL.out; omega
      refine ⟨?_, HS0.out⟩
      have h9 := HI.out.1
      rw [hi, List.take_length, ← HC.out] at h9
      rw [← h9]
      rfl
def fs_ExNode (ok : Nat → Prop) : List Fm := [Fm.int .i64, Fm.int .i64, Fm.str, Fm.sl ok 3 (fs_Int ok)]
theorem fs_ExNode_stays (ok : Nat → Prop) : ∀ f ∈ fs_ExNode ok, f.Stays ok := by
  intro f hf
  simp only [fs_ExNode, List.mem_cons, List.not_mem_nil, or_false] at hf
  rcases hf with rfl | rfl | rfl | rfl
  · exact Fm.int_stays _ _
  · exact Fm.int_stays _ _
  · exact Fm.str_stays _
  · exact Fm.sl_stays _ _ _ (fs_Int_stays ok)
set_option maxHeartbeats 4000000 in
set_option maxRecDepth 100000 in
theorem mark_ExNode (ok : Nat → Prop) (w : World) (v : Value) (c : Nat) (k : Int) (hf : Fm.sl ok 115 (fs_ExNode ok) w v c) (hk0 : 0 ≤ k) (hk1 : k + c < 4611686018427387904) :
    Calls Try.prog 60 #[v, .int .i64 k] w fun e w' => e = .returned (.int .i64 (k + c)) ∧ Sim ok w w' := by
  obtain ⟨A, n, cap, L, rfl, hn, hl, hc, hL⟩ := Fm.open_ hf
  have HL := Aside0.mk hL
  have HC := Aside0.mk hc
  have HK := Aside0.mk (show 0 ≤ k ∧ k + c < 4611686018427387904 from ⟨hk0, hk1⟩)
  have HN := Aside0.mk hn
  have HLL := Aside0.mk hl
  clear hL hc hk0 hk1 hn hl hf
  go_enter Try.func60, Try.ntmps60
  go_wp2
  go_loopg [1, 5] n (fun m v1 v5 wl => ∃ i K : Int, v1 = .int .i64 K ∧ v5 = .int .i64 i ∧ Aside0 (K = k + ((L.take i.toNat).sum : Nat) ∧ 0 ≤ i ∧ i ≤ n ∧ m = n - i.toNat) ∧ Aside0 (Sim ok w wl))
  case atStart => exact ⟨0, k, rfl, rfl, ⟨by simp, by omega, by omega, by simp⟩, ⟨Sim.refl _ _⟩⟩
  case round =>
    obtain ⟨i, K0, rfl, rfl, HI, HS0⟩ := hrel
    by_cases hlt : i < n
    · have d1 : decide (i < (n : Int)) = true := decide_eq_true hlt
      obtain ⟨g, cs, hA, hE, hsum, hle⟩ := HL.out i HI.out.2.1 hlt
      subst hA
      have HE0 := Aside0.mk (hE.sim HS0.out (fs_ExNode_stays ok))
      clear hE
      obtain ⟨c0, c1, c2, c3, rfl⟩ : ∃ c0 c1 c2 c3, cs = [c0, c1, c2, c3] := by
        have h9 := HE0.out.len
        match cs, h9 with
        | [c0, c1, c2, c3], _ => exact ⟨c0, c1, c2, c3, rfl⟩
      have e0 : c0 = 1 := HE0.out.one 0 rfl rfl
      subst e0
      have e1 : c1 = 1 := HE0.out.one 1 rfl rfl
      subst e1
      have e2 : c2 = 1 := HE0.out.oneS 2 rfl rfl
      subst e2
      have HSUM := Aside0.mk (show (L.take (i.toNat + 1)).sum = (L.take i.toNat).sum + (1 + 1 + 1 + c3) ∧ (L.take (i.toNat + 1)).sum ≤ c from ⟨by rw [hsum]; simp <;> omega, hle⟩)
      have p1 : (0 ≤ i) = True := eq_true HI.out.2.1
      have p2 : (i < (n : Int)) = True := eq_true hlt
      have HLT := Aside0.mk hlt
      clear hlt hsum hle
      have HB0 := Aside0.mk (show 0 ≤ K0 ∧ K0 + (1 + 1 + 1 + c3) < 4611686018427387904 from by have := HI.out; have := HSUM.out; have := HK.out; omega)
      obtain ⟨x0, hz0, hf0, hs0⟩ := HE0.out.int 0 rfl rfl
      have HT0 := Aside0.mk (hs0 K0)
      clear hs0
      simp only [show (fs_ExNode ok).length = 4 from rfl, Nat.mul_one, Nat.add_zero] at hz0 hf0 HT0
      go_upto_region 6 with (fail)
      clear hz0 hf0
      obtain ⟨K1, hK1⟩ : ∃ K1 : Int, K1 = K0 + 1 := ⟨_, rfl⟩
      rw [show wrap64 (K0 + 1) = K1 from by rw [hK1]; exact IntWalk.wrap64_in _ ⟨by have := HB0.out; omega, by have := HB0.out; omega⟩]
      obtain ⟨w1, hw1⟩ : ∃ w_ : World, w_ = (wr.setCell ⟨g, i.toNat * 4, none⟩ (.int .i64 K0)) := ⟨_, rfl⟩
      rw [← hw1]
      rw [← hw1] at HT0
      clear hw1
      have HS1 := Aside0.mk (HS0.out.trans HT0.out)
      have HE1 := Aside0.mk (HE0.out.sim HT0.out (fs_ExNode_stays ok))
      have HB1 := Aside0.mk (show 0 ≤ K1 ∧ K1 + (0 + 1 + 1 + c3) < 4611686018427387904 from by have := HB0.out; omega)
      have HI1 := Aside0.mk hK1
      clear hK1 HT0 HE0 HS0 HB0
      obtain ⟨x1, hz1, hf1, hs1⟩ := HE1.out.int 1 rfl rfl
      have HT1 := Aside0.mk (hs1 K1)
      clear hs1
      simp only [show (fs_ExNode ok).length = 4 from rfl, Nat.mul_one, Nat.add_zero] at hz1 hf1 HT1
      go_upto_region 8 with (fail)
      clear hz1 hf1
      obtain ⟨K2, hK2⟩ : ∃ K2 : Int, K2 = K1 + 1 := ⟨_, rfl⟩
      rw [show wrap64 (K1 + 1) = K2 from by rw [hK2]; exact IntWalk.wrap64_in _ ⟨by have := HB1.out; omega, by have := HB1.out; omega⟩]
      obtain ⟨w2, hw2⟩ : ∃ w_ : World, w_ = (w1.setCell ⟨g, i.toNat * 4 + 1, none⟩ (.int .i64 K1)) := ⟨_, rfl⟩
      rw [← hw2]
      rw [← hw2] at HT1
      clear hw2
      have HS2 := Aside0.mk (HS1.out.trans HT1.out)
      have HE2 := Aside0.mk (HE1.out.sim HT1.out (fs_ExNode_stays ok))
      have HB2 := Aside0.mk (show 0 ≤ K2 ∧ K2 + (0 + 1 + c3) < 4611686018427387904 from by have := HB1.out; omega)
      have HI2 := Aside0.mk hK2
      clear hK2 HT1 HE1 HS1 HB1
      obtain ⟨kt2, t2, ht2⟩ := markText_some K2 (by have := HB2.out; omega)
      have HX2 := Aside0.mk ht2
      clear ht2
      go_upto_region 10 with (go_at_call 22; refine ((laws_markText.calls kt2 _ t2 _ HX2.out).mono ?_); rintro e wt2 ⟨rfl, hb2⟩; have HV2 := Aside0.mk (HE2.out.sim (Sim.of_below hb2) (fs_ExNode_stays ok)); obtain ⟨x2, hz2, hf2, hs2⟩ := HV2.out.str 2 rfl rfl; have HT2 := Aside0.mk ((Sim.of_below (ok := ok) hb2).trans (hs2 t2)); clear hb2 hs2 HV2; simp only [show (fs_ExNode ok).length = 4 from rfl, Nat.mul_one, Nat.add_zero] at hz2 hf2 HT2)
      clear hz2 hf2
      obtain ⟨K3, hK3⟩ : ∃ K3 : Int, K3 = K2 + 1 := ⟨_, rfl⟩
      rw [show wrap64 (K2 + 1) = K3 from by rw [hK3]; exact IntWalk.wrap64_in _ ⟨by have := HB2.out; omega, by have := HB2.out; omega⟩]
      obtain ⟨w3, hw3⟩ : ∃ w_ : World, w_ = (wt2.setCell ⟨g, i.toNat * 4 + 2, none⟩ (.string t2)) := ⟨_, rfl⟩
      rw [← hw3]
      rw [← hw3] at HT2
      clear hw3
      have HS3 := Aside0.mk (HS2.out.trans HT2.out)
      have HE3 := Aside0.mk (HE2.out.sim HT2.out (fs_ExNode_stays ok))
      have HB3 := Aside0.mk (show 0 ≤ K3 ∧ K3 + (0 + c3) < 4611686018427387904 from by have := HB2.out; omega)
      have HI3 := Aside0.mk hK3
      clear hK3 HT2 HE2 HS2 HB2
      obtain ⟨u3_, hz3, hf3, hm3, _⟩ := HE3.out.cell 3 rfl rfl
      have HM3 := Aside0.mk hm3
      obtain ⟨A3, n3, cap3, L3, rfl, -⟩ := Fm.open_ hm3
      clear hm3
      simp only [show (fs_ExNode ok).length = 4 from rfl, Nat.mul_one, Nat.add_zero] at hz3 hf3
      go_wp2_with (go_at_call 64; refine ((mark_Int ok _ _ c3 K3 HM3.out (by have := HB3.out; omega) (by have := HB3.out; omega)).mono ?_); rintro e wt3 ⟨rfl, hs3⟩; have HT3 := Aside0.mk hs3; clear hs3)
      go_roundg (n - (i.toNat + 1))
      case measure => have := HI.out; have := HLT.out; omega
      case rel => exact ⟨i + 1, K3 + (c3 : Int), rfl, by rw [IntWalk.wrap64_in _ ⟨by have := HI.out; omega, by have := HLT.out; have := HN.out; omega⟩], ⟨by rw [show (i + 1).toNat = i.toNat + 1 from by have := HI.out; omega]; have := HI.out; have := HSUM.out; have := HI1.out; have := HI2.out; have := HI3.out; omega, by have := HI.out; omega, by have := HLT.out; omega, by have := HI.out; omega⟩, ⟨HS3.out.trans HT3.out⟩⟩
    · have d1 : decide (i < (n : Int)) = false := decide_eq_false hlt
      have HLT := Aside0.mk hlt
      clear hlt
      go_wp2
      go_ret
      have hi : i.toNat = L.length := by have := HI.out; have := HLT.out; have := HLL.out; omega
      refine ⟨?_, HS0.out⟩
      have h9 := HI.out.1
      rw [hi, List.take_length, ← HC.out] at h9
      rw [← h9]
      rfl
def fs_Expr (ok : Nat → Prop) : List Fm := [Fm.sl ok 115 (fs_ExNode ok)]
theorem fs_Expr_stays (ok : Nat → Prop) : ∀ f ∈ fs_Expr ok, f.Stays ok := by
  intro f hf
  simp only [fs_Expr, List.mem_cons, List.not_mem_nil, or_false] at hf
  subst hf
  exact Fm.sl_stays _ _ _ (fs_ExNode_stays ok)
set_option maxHeartbeats 4000000 in
set_option maxRecDepth 100000 in
theorem mark_Expr (ok : Nat → Prop) (w : World) (v : Value) (c : Nat) (k : Int) (hf : Fm.sl ok 106 (fs_Expr ok) w v c) (hk0 : 0 ≤ k) (hk1 : k + c < 4611686018427387904) :
    Calls Try.prog 55 #[v, .int .i64 k] w fun e w' => e = .returned (.int .i64 (k + c)) ∧ Sim ok w w' := by
  obtain ⟨A, n, cap, L, rfl, hn, hl, hc, hL⟩ := Fm.open_ hf
  have HL := Aside0.mk hL
  have HC := Aside0.mk hc
  have HK := Aside0.mk (show 0 ≤ k ∧ k + c < 4611686018427387904 from ⟨hk0, hk1⟩)
  have HN := Aside0.mk hn
  have HLL := Aside0.mk hl
  clear hL hc hk0 hk1 hn hl hf
  go_enter Try.func55, Try.ntmps55
  go_wp2
  go_loopg [1, 5] n (fun m v1 v5 wl => ∃ i K : Int, v1 = .int .i64 K ∧ v5 = .int .i64 i ∧ Aside0 (K = k + ((L.take i.toNat).sum : Nat) ∧ 0 ≤ i ∧ i ≤ n ∧ m = n - i.toNat) ∧ Aside0 (Sim ok w wl))
  case atStart => exact ⟨0, k, rfl, rfl, ⟨by simp, by omega, by omega, by simp⟩, ⟨Sim.refl _ _⟩⟩
  case round =>
    obtain ⟨i, K0, rfl, rfl, HI, HS0⟩ := hrel
    by_cases hlt : i < n
    · have d1 : decide (i < (n : Int)) = true := decide_eq_true hlt
      obtain ⟨g, cs, hA, hE, hsum, hle⟩ := HL.out i HI.out.2.1 hlt
      subst hA
      have HE0 := Aside0.mk (hE.sim HS0.out (fs_Expr_stays ok))
      clear hE
      obtain ⟨c0, rfl⟩ : ∃ c0, cs = [c0] := by
        have h9 := HE0.out.len
        match cs, h9 with
        | [c0], _ => exact ⟨c0, rfl⟩
      have HSUM := Aside0.mk (show (L.take (i.toNat + 1)).sum = (L.take i.toNat).sum + (c0) ∧ (L.take (i.toNat + 1)).sum ≤ c from ⟨by rw [hsum]; simp <;> omega, hle⟩)
      have p1 : (0 ≤ i) = True := eq_true HI.out.2.1
      have p2 : (i < (n : Int)) = True := eq_true hlt
      have HLT := Aside0.mk hlt
      clear hlt hsum hle
      have HB0 := Aside0.mk (show 0 ≤ K0 ∧ K0 + (c0) < 4611686018427387904 from by have := HI.out; have := HSUM.out; have := HK.out; omega)
      obtain ⟨u0_, hz0, hf0, hm0, _⟩ := HE0.out.cell 0 rfl rfl
      have HM0 := Aside0.mk hm0
      obtain ⟨A0, n0, cap0, L0, rfl, -⟩ := Fm.open_ hm0
      clear hm0
      simp only [show (fs_Expr ok).length = 1 from rfl, Nat.mul_one, Nat.add_zero] at hz0 hf0
      go_wp2_with (go_at_call 60; refine ((mark_ExNode ok _ _ c0 K0 HM0.out (by have := HB0.out; omega) (by have := HB0.out; omega)).mono ?_); rintro e wt0 ⟨rfl, hs0⟩; have HT0 := Aside0.mk hs0; clear hs0)
      go_roundg (n - (i.toNat + 1))
      case measure => have := HI.out; have := HLT.out; omega
      case rel => exact ⟨i + 1, K0 + (c0 : Int), rfl, by rw [IntWalk.wrap64_in _ ⟨by have := HI.out; omega, by have := HLT.out; have := HN.out; omega⟩], ⟨by rw [show (i + 1).toNat = i.toNat + 1 from by have := HI.out; omega]; have := HI.out; have := HSUM.out; omega, by have := HI.out; omega, by have := HLT.out; omega, by have := HI.out; omega⟩, ⟨HS0.out.trans HT0.out⟩⟩
    · have d1 : decide (i < (n : Int)) = false := decide_eq_false hlt
      have HLT := Aside0.mk hlt
      clear hlt
      go_wp2
      go_ret
      have hi : i.toNat = L.length := by have := HI.out; have := HLT.out; have := HLL.out; omega
      refine ⟨?_, HS0.out⟩
      have h9 := HI.out.1
      rw [hi, List.take_length, ← HC.out] at h9
      rw [← h9]
      rfl
def fs_Sym (ok : Nat → Prop) : List Fm := [Fm.int .i64, Fm.str, Fm.sl ok 106 (fs_Expr ok), Fm.str]
theorem fs_Sym_stays (ok : Nat → Prop) : ∀ f ∈ fs_Sym ok, f.Stays ok := by
  intro f hf
  simp only [fs_Sym, List.mem_cons, List.not_mem_nil, or_false] at hf
  rcases hf with rfl | rfl | rfl | rfl
  · exact Fm.int_stays _ _
  · exact Fm.str_stays _
  · exact Fm.sl_stays _ _ _ (fs_Expr_stays ok)
  · exact Fm.str_stays _
set_option maxHeartbeats 4000000 in
set_option maxRecDepth 100000 in
theorem mark_Sym (ok : Nat → Prop) (w : World) (v : Value) (c : Nat) (k : Int) (hf : Fm.sl ok 47 (fs_Sym ok) w v c) (hk0 : 0 ≤ k) (hk1 : k + c < 4611686018427387904) :
    Calls Try.prog 45 #[v, .int .i64 k] w fun e w' => e = .returned (.int .i64 (k + c)) ∧ Sim ok w w' := by
  obtain ⟨A, n, cap, L, rfl, hn, hl, hc, hL⟩ := Fm.open_ hf
  have HL := Aside0.mk hL
  have HC := Aside0.mk hc
  have HK := Aside0.mk (show 0 ≤ k ∧ k + c < 4611686018427387904 from ⟨hk0, hk1⟩)
  have HN := Aside0.mk hn
  have HLL := Aside0.mk hl
  clear hL hc hk0 hk1 hn hl hf
  go_enter Try.func45, Try.ntmps45
  go_wp2
  go_loopg [1, 5] n (fun m v1 v5 wl => ∃ i K : Int, v1 = .int .i64 K ∧ v5 = .int .i64 i ∧ Aside0 (K = k + ((L.take i.toNat).sum : Nat) ∧ 0 ≤ i ∧ i ≤ n ∧ m = n - i.toNat) ∧ Aside0 (Sim ok w wl))
  case atStart => exact ⟨0, k, rfl, rfl, ⟨by simp, by omega, by omega, by simp⟩, ⟨Sim.refl _ _⟩⟩
  case round =>
    obtain ⟨i, K0, rfl, rfl, HI, HS0⟩ := hrel
    by_cases hlt : i < n
    · have d1 : decide (i < (n : Int)) = true := decide_eq_true hlt
      obtain ⟨g, cs, hA, hE, hsum, hle⟩ := HL.out i HI.out.2.1 hlt
      subst hA
      have HE0 := Aside0.mk (hE.sim HS0.out (fs_Sym_stays ok))
      clear hE
      obtain ⟨c0, c1, c2, c3, rfl⟩ : ∃ c0 c1 c2 c3, cs = [c0, c1, c2, c3] := by
        have h9 := HE0.out.len
        match cs, h9 with
        | [c0, c1, c2, c3], _ => exact ⟨c0, c1, c2, c3, rfl⟩
      have e0 : c0 = 1 := HE0.out.one 0 rfl rfl
      subst e0
      have e1 : c1 = 1 := HE0.out.oneS 1 rfl rfl
      subst e1
      have e3 : c3 = 1 := HE0.out.oneS 3 rfl rfl
      subst e3
      have HSUM := Aside0.mk (show (L.take (i.toNat + 1)).sum = (L.take i.toNat).sum + (1 + 1 + c2 + 1) ∧ (L.take (i.toNat + 1)).sum ≤ c from ⟨by rw [hsum]; simp <;> omega, hle⟩)
      have p1 : (0 ≤ i) = True := eq_true HI.out.2.1
      have p2 : (i < (n : Int)) = True := eq_true hlt
      have HLT := Aside0.mk hlt
      clear hlt hsum hle
      have HB0 := Aside0.mk (show 0 ≤ K0 ∧ K0 + (1 + 1 + c2 + 1) < 4611686018427387904 from by have := HI.out; have := HSUM.out; have := HK.out; omega)
      obtain ⟨x0, hz0, hf0, hs0⟩ := HE0.out.int 0 rfl rfl
      have HT0 := Aside0.mk (hs0 K0)
      clear hs0
      simp only [show (fs_Sym ok).length = 4 from rfl, Nat.mul_one, Nat.add_zero] at hz0 hf0 HT0
      go_upto_region 6 with (fail)
      clear hz0 hf0
      obtain ⟨K1, hK1⟩ : ∃ K1 : Int, K1 = K0 + 1 := ⟨_, rfl⟩
      rw [show wrap64 (K0 + 1) = K1 from by rw [hK1]; exact IntWalk.wrap64_in _ ⟨by have := HB0.out; omega, by have := HB0.out; omega⟩]
      obtain ⟨w1, hw1⟩ : ∃ w_ : World, w_ = (wr.setCell ⟨g, i.toNat * 4, none⟩ (.int .i64 K0)) := ⟨_, rfl⟩
      rw [← hw1]
      rw [← hw1] at HT0
      clear hw1
      have HS1 := Aside0.mk (HS0.out.trans HT0.out)
      have HE1 := Aside0.mk (HE0.out.sim HT0.out (fs_Sym_stays ok))
      have HB1 := Aside0.mk (show 0 ≤ K1 ∧ K1 + (0 + 1 + c2 + 1) < 4611686018427387904 from by have := HB0.out; omega)
      have HI1 := Aside0.mk hK1
      clear hK1 HT0 HE0 HS0 HB0
      obtain ⟨kt1, t1, ht1⟩ := markText_some K1 (by have := HB1.out; omega)
      have HX1 := Aside0.mk ht1
      clear ht1
      go_upto_region 8 with (go_at_call 22; refine ((laws_markText.calls kt1 _ t1 _ HX1.out).mono ?_); rintro e wt1 ⟨rfl, hb1⟩; have HV1 := Aside0.mk (HE1.out.sim (Sim.of_below hb1) (fs_Sym_stays ok)); obtain ⟨x1, hz1, hf1, hs1⟩ := HV1.out.str 1 rfl rfl; have HT1 := Aside0.mk ((Sim.of_below (ok := ok) hb1).trans (hs1 t1)); clear hb1 hs1 HV1; simp only [show (fs_Sym ok).length = 4 from rfl, Nat.mul_one, Nat.add_zero] at hz1 hf1 HT1)
      clear hz1 hf1
      obtain ⟨K2, hK2⟩ : ∃ K2 : Int, K2 = K1 + 1 := ⟨_, rfl⟩
      rw [show wrap64 (K1 + 1) = K2 from by rw [hK2]; exact IntWalk.wrap64_in _ ⟨by have := HB1.out; omega, by have := HB1.out; omega⟩]
      obtain ⟨w2, hw2⟩ : ∃ w_ : World, w_ = (wt1.setCell ⟨g, i.toNat * 4 + 1, none⟩ (.string t1)) := ⟨_, rfl⟩
      rw [← hw2]
      rw [← hw2] at HT1
      clear hw2
      have HS2 := Aside0.mk (HS1.out.trans HT1.out)
      have HE2 := Aside0.mk (HE1.out.sim HT1.out (fs_Sym_stays ok))
      have HB2 := Aside0.mk (show 0 ≤ K2 ∧ K2 + (0 + c2 + 1) < 4611686018427387904 from by have := HB1.out; omega)
      have HI2 := Aside0.mk hK2
      clear hK2 HT1 HE1 HS1 HB1
      obtain ⟨u2_, hz2, hf2, hm2, _⟩ := HE2.out.cell 2 rfl rfl
      have HM2 := Aside0.mk hm2
      obtain ⟨A2, n2, cap2, L2, rfl, -⟩ := Fm.open_ hm2
      clear hm2
      simp only [show (fs_Sym ok).length = 4 from rfl, Nat.mul_one, Nat.add_zero] at hz2 hf2
      go_upto_region 9 with (go_at_call 55; refine ((mark_Expr ok _ _ c2 K2 HM2.out (by have := HB2.out; omega) (by have := HB2.out; omega)).mono ?_); rintro e wt2 ⟨rfl, hs2⟩; have HT2 := Aside0.mk hs2; clear hs2)
      clear hz2 hf2
      obtain ⟨K3, hK3⟩ : ∃ K3 : Int, K3 = K2 + (c2 : Int) := ⟨_, rfl⟩
      rw [show K2 + (c2 : Int) = K3 from by rw [hK3]]
      obtain ⟨w3, hw3⟩ : ∃ w_ : World, w_ = wt2 := ⟨_, rfl⟩
      rw [← hw3]
      rw [← hw3] at HT2
      clear hw3
      have HS3 := Aside0.mk (HS2.out.trans HT2.out)
      have HE3 := Aside0.mk (HE2.out.sim HT2.out (fs_Sym_stays ok))
      have HB3 := Aside0.mk (show 0 ≤ K3 ∧ K3 + (0 + 1) < 4611686018427387904 from by have := HB2.out; omega)
      have HI3 := Aside0.mk hK3
      clear hK3 HT2 HE2 HS2 HB2
      obtain ⟨kt3, t3, ht3⟩ := markText_some K3 (by have := HB3.out; omega)
      have HX3 := Aside0.mk ht3
      clear ht3
      go_wp2_with (go_at_call 22; refine ((laws_markText.calls kt3 _ t3 _ HX3.out).mono ?_); rintro e wt3 ⟨rfl, hb3⟩; have HV3 := Aside0.mk (HE3.out.sim (Sim.of_below hb3) (fs_Sym_stays ok)); obtain ⟨x3, hz3, hf3, hs3⟩ := HV3.out.str 3 rfl rfl; have HT3 := Aside0.mk ((Sim.of_below (ok := ok) hb3).trans (hs3 t3)); clear hb3 hs3 HV3; simp only [show (fs_Sym ok).length = 4 from rfl, Nat.mul_one, Nat.add_zero] at hz3 hf3 HT3)
      go_roundg (n - (i.toNat + 1))
      case measure => have := HI.out; have := HLT.out; omega
      case rel => exact ⟨i + 1, K3 + 1, by rw [IntWalk.wrap64_in _ ⟨by have := HB3.out; omega, by have := HB3.out; omega⟩], by rw [IntWalk.wrap64_in _ ⟨by have := HI.out; omega, by have := HLT.out; have := HN.out; omega⟩], ⟨by rw [show (i + 1).toNat = i.toNat + 1 from by have := HI.out; omega]; have := HI.out; have := HSUM.out; have := HI1.out; have := HI2.out; have := HI3.out; omega, by have := HI.out; omega, by have := HLT.out; omega, by have := HI.out; omega⟩, ⟨HS3.out.trans HT3.out⟩⟩
    · have d1 : decide (i < (n : Int)) = false := decide_eq_false hlt
      have HLT := Aside0.mk hlt
      clear hlt
      go_wp2
      go_ret
      have hi : i.toNat = L.length := by have := HI.out; have := HLT.out; have := HLL.out; omega
      refine ⟨?_, HS0.out⟩
      have h9 := HI.out.1
      rw [hi, List.take_length, ← HC.out] at h9
      rw [← h9]
      rfl
def fs_Alt (ok : Nat → Prop) : List Fm := [Fm.sl ok 47 (fs_Sym ok)]
theorem fs_Alt_stays (ok : Nat → Prop) : ∀ f ∈ fs_Alt ok, f.Stays ok := by
  intro f hf
  simp only [fs_Alt, List.mem_cons, List.not_mem_nil, or_false] at hf
  subst hf
  exact Fm.sl_stays _ _ _ (fs_Sym_stays ok)
set_option maxHeartbeats 4000000 in
set_option maxRecDepth 100000 in
theorem mark_Alt (ok : Nat → Prop) (w : World) (v : Value) (c : Nat) (k : Int) (hf : Fm.sl ok 44 (fs_Alt ok) w v c) (hk0 : 0 ≤ k) (hk1 : k + c < 4611686018427387904) :
    Calls Try.prog 28 #[v, .int .i64 k] w fun e w' => e = .returned (.int .i64 (k + c)) ∧ Sim ok w w' := by
  obtain ⟨A, n, cap, L, rfl, hn, hl, hc, hL⟩ := Fm.open_ hf
  have HL := Aside0.mk hL
  have HC := Aside0.mk hc
  have HK := Aside0.mk (show 0 ≤ k ∧ k + c < 4611686018427387904 from ⟨hk0, hk1⟩)
  have HN := Aside0.mk hn
  have HLL := Aside0.mk hl
  clear hL hc hk0 hk1 hn hl hf
  go_enter Try.func28, Try.ntmps28
  go_wp2
  go_loopg [1, 5] n (fun m v1 v5 wl => ∃ i K : Int, v1 = .int .i64 K ∧ v5 = .int .i64 i ∧ Aside0 (K = k + ((L.take i.toNat).sum : Nat) ∧ 0 ≤ i ∧ i ≤ n ∧ m = n - i.toNat) ∧ Aside0 (Sim ok w wl))
  case atStart => exact ⟨0, k, rfl, rfl, ⟨by simp, by omega, by omega, by simp⟩, ⟨Sim.refl _ _⟩⟩
  case round =>
    obtain ⟨i, K0, rfl, rfl, HI, HS0⟩ := hrel
    by_cases hlt : i < n
    · have d1 : decide (i < (n : Int)) = true := decide_eq_true hlt
      obtain ⟨g, cs, hA, hE, hsum, hle⟩ := HL.out i HI.out.2.1 hlt
      subst hA
      have HE0 := Aside0.mk (hE.sim HS0.out (fs_Alt_stays ok))
      clear hE
      obtain ⟨c0, rfl⟩ : ∃ c0, cs = [c0] := by
        have h9 := HE0.out.len
        match cs, h9 with
        | [c0], _ => exact ⟨c0, rfl⟩
      have HSUM := Aside0.mk (show (L.take (i.toNat + 1)).sum = (L.take i.toNat).sum + (c0) ∧ (L.take (i.toNat + 1)).sum ≤ c from ⟨by rw [hsum]; simp <;> omega, hle⟩)
      have p1 : (0 ≤ i) = True := eq_true HI.out.2.1
      have p2 : (i < (n : Int)) = True := eq_true hlt
      have HLT := Aside0.mk hlt
      clear hlt hsum hle
      have HB0 := Aside0.mk (show 0 ≤ K0 ∧ K0 + (c0) < 4611686018427387904 from by have := HI.out; have := HSUM.out; have := HK.out; omega)
      obtain ⟨u0_, hz0, hf0, hm0, _⟩ := HE0.out.cell 0 rfl rfl
      have HM0 := Aside0.mk hm0
      obtain ⟨A0, n0, cap0, L0, rfl, -⟩ := Fm.open_ hm0
      clear hm0
      simp only [show (fs_Alt ok).length = 1 from rfl, Nat.mul_one, Nat.add_zero] at hz0 hf0
      go_wp2_with (go_at_call 45; refine ((mark_Sym ok _ _ c0 K0 HM0.out (by have := HB0.out; omega) (by have := HB0.out; omega)).mono ?_); rintro e wt0 ⟨rfl, hs0⟩; have HT0 := Aside0.mk hs0; clear hs0)
      go_roundg (n - (i.toNat + 1))
      case measure => have := HI.out; have := HLT.out; omega
      case rel => exact ⟨i + 1, K0 + (c0 : Int), rfl, by rw [IntWalk.wrap64_in _ ⟨by have := HI.out; omega, by have := HLT.out; have := HN.out; omega⟩], ⟨by rw [show (i + 1).toNat = i.toNat + 1 from by have := HI.out; omega]; have := HI.out; have := HSUM.out; omega, by have := HI.out; omega, by have := HLT.out; omega, by have := HI.out; omega⟩, ⟨HS0.out.trans HT0.out⟩⟩
    · have d1 : decide (i < (n : Int)) = false := decide_eq_false hlt
      have HLT := Aside0.mk hlt
      clear hlt
      go_wp2
      go_ret
      have hi : i.toNat = L.length := by have := HI.out; have := HLT.out; have := HLL.out; omega
      refine ⟨?_, HS0.out⟩
      have h9 := HI.out.1
      rw [hi, List.take_length, ← HC.out] at h9
      rw [← h9]
      rfl
def fs_Rule (ok : Nat → Prop) : List Fm := [Fm.str, Fm.sl ok 9 (fs_String ok), Fm.sl ok 44 (fs_Alt ok)]
theorem fs_Rule_stays (ok : Nat → Prop) : ∀ f ∈ fs_Rule ok, f.Stays ok := by
  intro f hf
  simp only [fs_Rule, List.mem_cons, List.not_mem_nil, or_false] at hf
  rcases hf with rfl | rfl | rfl
  · exact Fm.str_stays _
  · exact Fm.sl_stays _ _ _ (fs_String_stays ok)
  · exact Fm.sl_stays _ _ _ (fs_Alt_stays ok)
set_option maxHeartbeats 4000000 in
set_option maxRecDepth 100000 in
theorem mark_Rule (ok : Nat → Prop) (w : World) (v : Value) (c : Nat) (k : Int) (hf : Fm.sl ok 41 (fs_Rule ok) w v c) (hk0 : 0 ≤ k) (hk1 : k + c < 4611686018427387904) :
    Calls Try.prog 21 #[v, .int .i64 k] w fun e w' => e = .returned (.int .i64 (k + c)) ∧ Sim ok w w' := by
  obtain ⟨A, n, cap, L, rfl, hn, hl, hc, hL⟩ := Fm.open_ hf
  have HL := Aside0.mk hL
  have HC := Aside0.mk hc
  have HK := Aside0.mk (show 0 ≤ k ∧ k + c < 4611686018427387904 from ⟨hk0, hk1⟩)
  have HN := Aside0.mk hn
  have HLL := Aside0.mk hl
  clear hL hc hk0 hk1 hn hl hf
  go_enter Try.func21, Try.ntmps21
  go_wp2
  go_loopg [1, 5] n (fun m v1 v5 wl => ∃ i K : Int, v1 = .int .i64 K ∧ v5 = .int .i64 i ∧ Aside0 (K = k + ((L.take i.toNat).sum : Nat) ∧ 0 ≤ i ∧ i ≤ n ∧ m = n - i.toNat) ∧ Aside0 (Sim ok w wl))
  case atStart => exact ⟨0, k, rfl, rfl, ⟨by simp, by omega, by omega, by simp⟩, ⟨Sim.refl _ _⟩⟩
  case round =>
    obtain ⟨i, K0, rfl, rfl, HI, HS0⟩ := hrel
    by_cases hlt : i < n
    · have d1 : decide (i < (n : Int)) = true := decide_eq_true hlt
      obtain ⟨g, cs, hA, hE, hsum, hle⟩ := HL.out i HI.out.2.1 hlt
      subst hA
      have HE0 := Aside0.mk (hE.sim HS0.out (fs_Rule_stays ok))
      clear hE
      obtain ⟨c0, c1, c2, rfl⟩ : ∃ c0 c1 c2, cs = [c0, c1, c2] := by
        have h9 := HE0.out.len
        match cs, h9 with
        | [c0, c1, c2], _ => exact ⟨c0, c1, c2, rfl⟩
      have e0 : c0 = 1 := HE0.out.oneS 0 rfl rfl
      subst e0
      have HSUM := Aside0.mk (show (L.take (i.toNat + 1)).sum = (L.take i.toNat).sum + (1 + c1 + c2) ∧ (L.take (i.toNat + 1)).sum ≤ c from ⟨by rw [hsum]; simp <;> omega, hle⟩)
      have p1 : (0 ≤ i) = True := eq_true HI.out.2.1
      have p2 : (i < (n : Int)) = True := eq_true hlt
      have HLT := Aside0.mk hlt
      clear hlt hsum hle
      have HB0 := Aside0.mk (show 0 ≤ K0 ∧ K0 + (1 + c1 + c2) < 4611686018427387904 from by have := HI.out; have := HSUM.out; have := HK.out; omega)
      obtain ⟨kt0, t0, ht0⟩ := markText_some K0 (by have := HB0.out; omega)
      have HX0 := Aside0.mk ht0
      clear ht0
      go_upto_region 6 with (go_at_call 22; refine ((laws_markText.calls kt0 _ t0 _ HX0.out).mono ?_); rintro e wt0 ⟨rfl, hb0⟩; have HV0 := Aside0.mk (HE0.out.sim (Sim.of_below hb0) (fs_Rule_stays ok)); obtain ⟨x0, hz0, hf0, hs0⟩ := HV0.out.str 0 rfl rfl; have HT0 := Aside0.mk ((Sim.of_below (ok := ok) hb0).trans (hs0 t0)); clear hb0 hs0 HV0; simp only [show (fs_Rule ok).length = 3 from rfl, Nat.mul_one, Nat.add_zero] at hz0 hf0 HT0)
      clear hz0 hf0
      obtain ⟨K1, hK1⟩ : ∃ K1 : Int, K1 = K0 + 1 := ⟨_, rfl⟩
      rw [show wrap64 (K0 + 1) = K1 from by rw [hK1]; exact IntWalk.wrap64_in _ ⟨by have := HB0.out; omega, by have := HB0.out; omega⟩]
      obtain ⟨w1, hw1⟩ : ∃ w_ : World, w_ = (wt0.setCell ⟨g, i.toNat * 3, none⟩ (.string t0)) := ⟨_, rfl⟩
      rw [← hw1]
      rw [← hw1] at HT0
      clear hw1
      have HS1 := Aside0.mk (HS0.out.trans HT0.out)
      have HE1 := Aside0.mk (HE0.out.sim HT0.out (fs_Rule_stays ok))
      have HB1 := Aside0.mk (show 0 ≤ K1 ∧ K1 + (0 + c1 + c2) < 4611686018427387904 from by have := HB0.out; omega)
      have HI1 := Aside0.mk hK1
      clear hK1 HT0 HE0 HS0 HB0
      obtain ⟨u1_, hz1, hf1, hm1, _⟩ := HE1.out.cell 1 rfl rfl
      have HM1 := Aside0.mk hm1
      obtain ⟨A1, n1, cap1, L1, rfl, -⟩ := Fm.open_ hm1
      clear hm1
      simp only [show (fs_Rule ok).length = 3 from rfl, Nat.mul_one, Nat.add_zero] at hz1 hf1
      go_upto_region 7 with (go_at_call 11; refine ((mark_String ok _ _ c1 K1 HM1.out (by have := HB1.out; omega) (by have := HB1.out; omega)).mono ?_); rintro e wt1 ⟨rfl, hs1⟩; have HT1 := Aside0.mk hs1; clear hs1)
      clear hz1 hf1
      obtain ⟨K2, hK2⟩ : ∃ K2 : Int, K2 = K1 + (c1 : Int) := ⟨_, rfl⟩
      rw [show K1 + (c1 : Int) = K2 from by rw [hK2]]
      obtain ⟨w2, hw2⟩ : ∃ w_ : World, w_ = wt1 := ⟨_, rfl⟩
      rw [← hw2]
      rw [← hw2] at HT1
      clear hw2
      have HS2 := Aside0.mk (HS1.out.trans HT1.out)
      have HE2 := Aside0.mk (HE1.out.sim HT1.out (fs_Rule_stays ok))
      have HB2 := Aside0.mk (show 0 ≤ K2 ∧ K2 + (0 + c2) < 4611686018427387904 from by have := HB1.out; omega)
      have HI2 := Aside0.mk hK2
      clear hK2 HT1 HE1 HS1 HB1
      obtain ⟨u2_, hz2, hf2, hm2, _⟩ := HE2.out.cell 2 rfl rfl
      have HM2 := Aside0.mk hm2
      obtain ⟨A2, n2, cap2, L2, rfl, -⟩ := Fm.open_ hm2
      clear hm2
      simp only [show (fs_Rule ok).length = 3 from rfl, Nat.mul_one, Nat.add_zero] at hz2 hf2
      go_wp2_with (go_at_call 28; refine ((mark_Alt ok _ _ c2 K2 HM2.out (by have := HB2.out; omega) (by have := HB2.out; omega)).mono ?_); rintro e wt2 ⟨rfl, hs2⟩; have HT2 := Aside0.mk hs2; clear hs2)
      go_roundg (n - (i.toNat + 1))
      case measure => have := HI.out; have := HLT.out; omega
      case rel => exact ⟨i + 1, K2 + (c2 : Int), rfl, by rw [IntWalk.wrap64_in _ ⟨by have := HI.out; omega, by have := HLT.out; have := HN.out; omega⟩], ⟨by rw [show (i + 1).toNat = i.toNat + 1 from by have := HI.out; omega]; have := HI.out; have := HSUM.out; have := HI1.out; have := HI2.out; omega, by have := HI.out; omega, by have := HLT.out; omega, by have := HI.out; omega⟩, ⟨HS2.out.trans HT2.out⟩⟩
    · have d1 : decide (i < (n : Int)) = false := decide_eq_false hlt
      have HLT := Aside0.mk hlt
      clear hlt
      go_wp2
      go_ret
      have hi : i.toNat = L.length := by have := HI.out; have := HLT.out; have := HLL.out; omega
      refine ⟨?_, HS0.out⟩
      have h9 := HI.out.1
      rw [hi, List.take_length, ← HC.out] at h9
      rw [← h9]
      rfl
def cnt_k115 (x : S115) : Nat := 1 + (1 + (1 + ((x.f3.map (fun _ => 1)).sum)))
theorem forms_k115 (ok : Nat → Prop) : Forms k115 (fs_ExNode ok) ok cnt_k115 := (Forms.pair (Forms.int ok .i64) (Forms.pair (Forms.int ok .i64) (Forms.pair (Forms.string ok) (Forms.slice (Forms.int ok .i64) 3)))).iso (fun x : S115 => (x.f0, x.f1, x.f2, x.f3))
def cnt_k106 (x : S106) : Nat := (x.f0.map cnt_k115).sum
theorem forms_k106 (ok : Nat → Prop) : Forms k106 (fs_Expr ok) ok cnt_k106 := (Forms.slice (forms_k115 ok) 115).iso (fun x : S106 => x.f0)
def cnt_k47 (x : S47) : Nat := 1 + (1 + ((x.f2.map cnt_k106).sum + (1)))
theorem forms_k47 (ok : Nat → Prop) : Forms k47 (fs_Sym ok) ok cnt_k47 := (Forms.pair (Forms.int ok .i64) (Forms.pair (Forms.string ok) (Forms.pair (Forms.slice (forms_k106 ok) 106) (Forms.string ok)))).iso (fun x : S47 => (x.f0, x.f1, x.f2, x.f3))
def cnt_k44 (x : S44) : Nat := (x.f0.map cnt_k47).sum
theorem forms_k44 (ok : Nat → Prop) : Forms k44 (fs_Alt ok) ok cnt_k44 := (Forms.slice (forms_k47 ok) 47).iso (fun x : S44 => x.f0)
def cnt_k41 (x : S41) : Nat := 1 + ((x.f1.map (fun _ => 1)).sum + ((x.f2.map cnt_k44).sum))
theorem forms_k41 (ok : Nat → Prop) : Forms k41 (fs_Rule ok) ok cnt_k41 := (Forms.pair (Forms.string ok) (Forms.pair (Forms.slice (Forms.string ok) 9) (Forms.slice (forms_k44 ok) 44))).iso (fun x : S41 => (x.f0, x.f1, x.f2))
def laws_markGrammar.f (l0_0 : List S41) (a1 : Int) : Option Int := if 0 ≤ a1 ∧ a1 + ((l0_0.map cnt_k41).sum : Nat) < 4611686018427387904 then some (a1 + ((l0_0.map cnt_k41).sum : Nat)) else none
set_option maxHeartbeats 1000000 in
theorem laws_markGrammar.calls (P0_0_ : Nat → Prop) (u9000_ : Value) (l0_0 : List S41) (a1 : Int) (r1 : Int) (w0 w : World) (hB : Below w0.heap.size w0 w) (ho0_0 : Kd.R k41 41 w w0.heap.size P0_0_ u9000_ l0_0) (h : laws_markGrammar.f l0_0 a1 = some r1) :
    Calls Try.prog 10 #[.agg #[u9000_], .int .i64 a1] w fun e w' => e = .returned (.int .i64 r1) ∧ Below w0.heap.size w0 w' ∧ Kept w w' (fun k_ => P0_0_ k_) := by
  unfold laws_markGrammar.f at h
  by_cases hs : 0 ≤ a1 ∧ a1 + ((l0_0.map cnt_k41).sum : Nat) < 4611686018427387904
  case neg => rw [if_neg hs] at h; exact absurd h (by simp)
  rw [if_pos hs] at h
  have hr := Option.some.inj h
  clear h
  have hf := Fm.of_R (forms_k41 (fun k => P0_0_ k ∧ w0.heap.size ≤ k ∧ k < w.heap.size)) (Kd.R_bound ho0_0) (fun k hk => ⟨hk.1, hk.2.1, hk.2.2.1⟩)
  have hf2 := fun o : Obj => Fm.sl_stays _ _ _ (fs_Rule_stays _) w (w.alloc o) u9000_ u9000_ _ (Sim.of_below (below_alloc (Below.refl _ _) o)) (.refl _) hf
  have HF := Aside0.mk hf2
  have HS := Aside0.mk hs
  have HR := Aside0.mk hr
  have HB := Aside0.mk hB
  obtain ⟨A, n, cap, L, rfl, -⟩ := Fm.open_ hf
  clear hf hf2 hs hr hB ho0_0
  go_enter Try.func10, Try.ntmps10
  go_wp2_with (go_at_call 21; refine (mark_Rule _ _ _ _ _ (HF.out _) HS.out.1 HS.out.2).mono ?_; rintro e w1 ⟨rfl, hs1⟩; have HS1 := Aside0.mk hs1; clear hs1)
  go_ret
  have hS := HS1.out
  have hb := below_alloc (Below.refl w.heap.size w) (.cells #[.slice A n cap] 30 (0, 0))
  refine ⟨by rw [← HR.out]; rfl, ?_, ?_⟩
  · exact ⟨hS.os.trans HB.out.os, hS.tape.trans HB.out.tape, hS.output.trans HB.out.output, Nat.le_trans HB.out.size (Nat.le_trans hb.size hS.size), fun k hk => (hS.off k (Nat.lt_of_lt_of_le hk (Nat.le_trans HB.out.size hb.size)) (fun h9 => by omega)).trans ((hb.block k (Nat.lt_of_lt_of_le hk HB.out.size)).trans (HB.out.block k hk))⟩
  · exact ⟨Nat.le_trans hb.size hS.size, fun i hi hn => (hS.off i (Nat.lt_of_lt_of_le hi hb.size) (fun h9 => hn h9.1)).trans (hb.block i hi)⟩


end Go.Proofs.Ythnokfmpogekoaa.PFnExactCallsOf
