/- Written by a program of this session out of Lean's print of the translation: what the calls of these Go functions come to, in plain Lean. No condition. -/
import Derived.Test.YtlkbdoejeomlmaaPFnExprTextsx0
import Derived.Test.YtlkbdoejeomlmaaPFnExprTextsx1
namespace Go.Proofs.Ytlkbdoejeomlmaa.PFnExprTexts
open Go.RowKit Go.Proofs.YtlkbdoejeomlmaaW.PrintWords Go.Proofs.YtlkbdoejeomlmaaW.PrintLast Go.Proofs.YtlkbdoejeomlmaaW.PrintMore
attribute [local go_sem] max2_int min2_int max_two min_two max_three min_three max_four min_four   -- for this text's walks alone
set_option linter.unusedVariables false
set_option linter.unusedSimpArgs false

/-! ### spec_l04Expr: function 69 -/
mutual
def spec_l04Made.f : Nat → List Int → Int → Int → List S32 → List ByteArray → Int → Option (Int × Int × Int × List S32)
  | 0, _, _, _, _, _, _ => none
  | k + 1, s0, s1, s2, out, names, deep => (spec_l01PickInt.f s0 s1 s2 ([1, 1, 2, 2, 3] : List Int)).bind fun o => (if 0 < deep then ((spec_l01Once.f s0 o.2.1 o.2.2 3).bind fun q => (if q.1 = true then (spec_l04Made.j0 k s0 q.2.1 q.2.2 out names deep o.1) else ((spec_l01PickInt.f s0 q.2.1 q.2.2 ([4, 4, 5, 6, 7, 8, 9, 10, 11] : List Int)).bind fun p => (spec_l04Made.j0 k s0 p.2.1 p.2.2 out names deep p.1)))) else (spec_l04Made.j0 k s0 o.2.1 o.2.2 out names deep o.1))
def spec_l04Made.j0 : Nat → List Int → Int → Int → List S32 → List ByteArray → Int → Int → Option (Int × Int × Int × List S32)
  | 0, _, _, _, _, _, _, _ => none
  | k + 1, s0, s1, s2, out, names, deep, op => if op = 1 then ((spec_l01PickInt.f s0 s1 s2 ([0, 1, 2, 3, 9, 99] : List Int)).bind fun n => (spec_l04Made.e0 k n.2.1 n.2.2 out ⟨op, n.1, (⟨#[]⟩ : ByteArray), []⟩)) else (if op = 2 then (if 0 < (names.length : Int) then ((spec_l01Below.f s0 s1 s2 (names.length : Int)).bind fun n => (if 0 ≤ n.1 then (if n.1 < (names.length : Int) then (spec_l04Made.e0 k n.2.1 n.2.2 out ⟨op, 0, rdOf ByteArray.empty names n.1, []⟩) else (none)) else (none))) else (none)) else (if op = 3 then (spec_l04Made.e0 k s1 s2 out ⟨op, 0, (⟨#[]⟩ : ByteArray), []⟩) else (spec_l04Made.l0 k s0 s1 s2 out names deep op 0 [])))
def spec_l04Made.l0 : Nat → List Int → Int → Int → List S32 → List ByteArray → Int → Int → Int → List Int → Option (Int × Int × Int × List S32)
  | 0, _, _, _, _, _, _, _, _, _ => none
  | k + 1, s0, s1, s2, out, names, deep, op, i, acc => (spec_l04Kids.f k op).bind fun n => (if i < n then ((spec_l04Made.f k s0 s1 s2 out names (wrap64 (deep - 1))).bind fun r => (if acc.length < 17592186044416 then (spec_l04Made.l0 k s0 r.2.1 r.2.2.1 r.2.2.2 names deep op (wrap64 (i + 1)) (acc ++ [r.1])) else (none))) else (spec_l04Made.e0 k s1 s2 out ⟨op, 0, (⟨#[]⟩ : ByteArray), acc⟩))
def spec_l04Made.e0 : Nat → Int → Int → List S32 → S32 → Option (Int × Int × Int × List S32)
  | 0, _, _, _, _ => none
  | k + 1, s1, s2, out, x => if out.length < 2513169434916 then (some (wrap64 (((out ++ [x]).length : Int) - 1), s1, s2, out ++ [x])) else (none)
end
def spec_l04Expr.f (k : Nat) (s0_0 : List Int) (s0_1 : Int) (s0_2 : Int) (l1 : List ByteArray) (a2 : Int) : Option (List S32 × Int × Int) := (spec_l04Made.f k s0_0 s0_1 s0_2 ([] : List S32) l1 a2).bind fun r => some (r.2.2.2, r.2.1, r.2.2.1)
theorem spec_l04Made.mono_l : ∀ k, (∀ y0 y1 y2 y3 y4 y5, LeO (spec_l04Made.f k y0 y1 y2 y3 y4 y5) (spec_l04Made.f (k + 1) y0 y1 y2 y3 y4 y5)) ∧ (∀ y0 y1 y2 y3 y4 y5 y6, LeO (spec_l04Made.j0 k y0 y1 y2 y3 y4 y5 y6) (spec_l04Made.j0 (k + 1) y0 y1 y2 y3 y4 y5 y6)) ∧ (∀ y0 y1 y2 y3 y4 y5 y6 y7 y8, LeO (spec_l04Made.l0 k y0 y1 y2 y3 y4 y5 y6 y7 y8) (spec_l04Made.l0 (k + 1) y0 y1 y2 y3 y4 y5 y6 y7 y8)) ∧ (∀ y0 y1 y2 y3, LeO (spec_l04Made.e0 k y0 y1 y2 y3) (spec_l04Made.e0 (k + 1) y0 y1 y2 y3))
  | 0 => ⟨fun _ _ _ _ _ _ r h => by simp [spec_l04Made.f] at h, fun _ _ _ _ _ _ _ r h => by simp [spec_l04Made.j0] at h, fun _ _ _ _ _ _ _ _ _ r h => by simp [spec_l04Made.l0] at h, fun _ _ _ _ r h => by simp [spec_l04Made.e0] at h⟩
  | k + 1 => by
    obtain ⟨ih0, ih1, ih2, ih3⟩ := spec_l04Made.mono_l k
    refine ⟨?_, ?_, ?_, ?_⟩
    · intro y0 y1 y2 y3 y4 y5
      unfold spec_l04Made.f
      repeat' first
      | exact ih1 _ _ _ _ _ _ _
      | exact LeO.refl _
      | refine LeO.ite ?_ ?_
      | refine LeO.bind ?_ (fun _ => ?_)
    · intro y0 y1 y2 y3 y4 y5 y6
      unfold spec_l04Made.j0
      repeat' first
      | exact ih3 _ _ _ _
      | exact ih2 _ _ _ _ _ _ _ _ _
      | exact LeO.refl _
      | refine LeO.ite ?_ ?_
      | refine LeO.bind ?_ (fun _ => ?_)
    · intro y0 y1 y2 y3 y4 y5 y6 y7 y8
      unfold spec_l04Made.l0
      repeat' first
      | exact ih3 _ _ _ _
      | exact ih2 _ _ _ _ _ _ _ _ _
      | exact ih0 _ _ _ _ _ _
      | exact spec_l04Kids.mono _ _
      | exact LeO.refl _
      | refine LeO.ite ?_ ?_
      | refine LeO.bind ?_ (fun _ => ?_)
    · intro y0 y1 y2 y3
      unfold spec_l04Made.e0
      exact LeO.refl _
theorem spec_l04Expr.mono : ∀ a0 a1 a2 a3 a4 k, LeO (spec_l04Expr.f k a0 a1 a2 a3 a4) (spec_l04Expr.f (k + 1) a0 a1 a2 a3 a4) := by
  intro a0 a1 a2 a3 a4 k
  unfold spec_l04Expr.f
  exact LeO.bind ((spec_l04Made.mono_l k).1 _ _ _ _ _ _) (fun _ => LeO.refl _)
/-- Where a drawing of an expression stands: the reader of draws, the list behind its pointer. -/
structure St (w0 wE w : World) (g go : Nat) (s0 : List Int) (s1 s2 : Int) (v : Value) (out : List S32) (ok : Nat → Prop) : Prop where
  inn : IsS190 w0 w g s0 s1 s2
  bel : Below w0.heap.size w0 w
  keep : KeepBut wE w g none
  goB : wE.heap.size ≤ go
  cell : w.heap[go]? = some (.cells #[v] 24 (0, 0))
  row : Kd.S k32 32 w wE.heap.size ok v out
/-- What a part of it leaves as it was. -/
structure Fr (w w' : World) (g go : Nat) (v v' : Value) : Prop where
  size : w.heap.size ≤ w'.heap.size
  same : ∀ i, i < w.heap.size → i ≠ g → i ≠ go → v.ownBlock ≠ some i → w'.heap[i]? = w.heap[i]?
  at_ : v'.ownBlock = v.ownBlock ∨ ∃ q, v'.ownBlock = some q ∧ w.heap.size ≤ q
theorem Fr.refl (w : World) (g go : Nat) (v : Value) : Fr w w g go v v := ⟨Nat.le_refl _, fun _ _ _ _ _ => rfl, .inl rfl⟩
theorem Fr.trans {w w1 w2 : World} {g go : Nat} {v v1 v2 : Value} (h : Fr w w1 g go v v1) (k : Fr w1 w2 g go v1 v2) : Fr w w2 g go v v2 := by
  refine ⟨Nat.le_trans h.size k.size, fun i hi hg hgo hv => (k.same i (Nat.lt_of_lt_of_le hi h.size) hg hgo ?_).trans (h.same i hi hg hgo hv), ?_⟩
  · rcases h.at_ with e | ⟨q, e, hq⟩
    · rw [e]; exact hv
    · rw [e]; intro e2; have := Option.some.inj e2; omega
  · rcases k.at_ with e | ⟨q, e, hq⟩
    · rw [e]; exact h.at_
    · exact .inr ⟨q, e, Nat.le_trans h.size hq⟩
theorem Fr.of_same {w w' : World} {g go : Nat} {v : Value} (hs : w.heap.size ≤ w'.heap.size) (hh : ∀ i, i < w.heap.size → i ≠ g → w'.heap[i]? = w.heap[i]?) : Fr w w' g go v v := ⟨hs, fun i hi hg _ _ => hh i hi hg, .inl rfl⟩
theorem St.ne {w0 wE w : World} {g go : Nat} {s0 : List Int} {s1 s2 : Int} {v : Value} {out : List S32} {ok : Nat → Prop} (h : St w0 wE w g go s0 s1 s2 v out ok) : g ≠ go := h.inn.ne_blk h.cell (by decide)
theorem St.move {w0 wE w w' : World} {g go : Nat} {s0 : List Int} {s1 s2 t1 t2 : Int} {v : Value} {out : List S32} {ok : Nat → Prop} (h : St w0 wE w g go s0 s1 s2 v out ok) (hs : w.heap.size ≤ w'.heap.size) (hh : ∀ i, i < w.heap.size → i ≠ g → w'.heap[i]? = w.heap[i]?) (hI : IsS190 w0 w' g s0 t1 t2) (hB : Below w0.heap.size w0 w') : St w0 wE w' g go s0 t1 t2 v out ok := by
  refine ⟨hI, hB, h.keep.trans ⟨hs, fun i hi hg _ => hh i hi hg⟩ (.inl rfl), h.goB, (hh go (blk_lt h.cell) h.ne.symm).trans h.cell, ?_⟩
  have hb := Kd.S_bound h.row
  refine Kd.S_mono (Kd.S_move hb (fun k hk => hh k hk.2.2.1 ?_)) (fun k hk => hk.1)
  obtain ⟨q, hq, cs, hc⟩ := hk.2.2.2
  refine (h.inn.ne_blk hc ?_).symm
  rintro rfl
  revert hq
  decide
theorem St.alloc {w0 wE w : World} {g go : Nat} {s0 : List Int} {s1 s2 : Int} {v : Value} {out : List S32} {ok : Nat → Prop} (h : St w0 wE w g go s0 s1 s2 v out ok) (o : Obj) : St w0 wE (w.alloc o) g go s0 s1 s2 v out ok :=
  h.move (below_alloc (Below.refl w.heap.size w) o).size (fun i hi _ => (below_alloc (Below.refl w.heap.size w) o).block i hi) (h.inn.alloc o) (below_alloc h.bel o)

theorem lit_C (w : World) (xs : List Int) (hl : xs.length ≤ 100) : Kd.C (Kd.int .i64) (w.alloc (.cells (xs.map (Value.int .i64)).toArray 3)) (some ⟨w.heap.size, 0, none⟩) xs.length xs := by
  refine ⟨rfl, by omega, fun hn => ⟨⟨w.heap.size, 0, none⟩, rfl, fun j p hj => ⟨[.int .i64 p], rfl, rfl, fun i u hu => ?_⟩⟩⟩
  match i, hu with
  | 0, hu =>
    have := Option.some.inj hu
    subst this
    have hc := blk_cell (heap_alloc_new w (.cells (xs.map (Value.int .i64)).toArray 3)) j
    have e1 : (xs.map (Value.int .i64)).toArray[j]? = some (.int .i64 p) := by simp [hj]
    have e2 : Addr.add ⟨w.heap.size, 0, none⟩ (j * (Kd.int .i64).sz + 0) = ⟨w.heap.size, j, none⟩ := by
      show Addr.add ⟨w.heap.size, 0, none⟩ (j * 1 + 0) = _
      unfold Addr.add
      by_cases h0 : j * 1 + 0 = 0
      · rw [if_pos h0, show j = 0 from by omega]
      · rw [if_neg h0]
        simp
    rw [e2]
    exact hc.trans e1

theorem KeepBut.fr {w w' : World} {g : Nat} (h : KeepBut w w' g none) (go : Nat) (v : Value) : Fr w w' g go v v := Fr.of_same h.1 (fun i hi hg => h.2 i hi hg (by simp))
theorem St.keepBut {w0 wE w w' : World} {g go : Nat} {s0 : List Int} {s1 s2 t1 t2 : Int} {v : Value} {out : List S32} {ok : Nat → Prop} (h : St w0 wE w g go s0 s1 s2 v out ok) (hk : KeepBut w w' g none) (hI : IsS190 w0 w' g s0 t1 t2) (hB : Below w0.heap.size w0 w') : St w0 wE w' g go s0 t1 t2 v out ok := h.move hk.1 (fun i hi hg => hk.2 i hi hg (by simp)) hI hB
theorem St.pickInt {w0 wE w : World} {g go : Nat} {s0 : List Int} {s1 s2 : Int} {v : Value} {out : List S32} {ok : Nat → Prop} (h : St w0 wE w g go s0 s1 s2 v out ok) (xs : List Int) (hl : xs.length ≤ 100) {r t1 t2 : Int} (hp : spec_l01PickInt.f s0 s1 s2 xs = some (r, t1, t2)) :
    Calls Try.prog 137 #[.pointer (some ⟨g, 0, none⟩), .slice (some ⟨w.heap.size, 0, none⟩) xs.length xs.length] (w.alloc (.cells (xs.map (Value.int .i64)).toArray 3)) fun e w' => e = .returned (.int .i64 r) ∧ St w0 wE w' g go s0 t1 t2 v out ok ∧ KeepBut w w' g none := by
  refine (spec_l01PickInt.calls g s0 s1 s2 _ _ xs r t1 t2 w0 _ (h.inn.alloc _) (below_alloc h.bel _) (lit_C w xs hl) (Nat.le_refl _) (fun ad e _ => ?_) hp).mono (fun e w' hh => ?_)
  · have := Option.some.inj e
    subst this
    have := h.inn.lt
    show w.heap.size ≠ g
    omega
  · obtain ⟨he, hi, hb, hk⟩ := hh
    exact ⟨he, (h.alloc _).keepBut hk hi hb, (KeepBut.of_below (below_alloc (Below.refl _ _) _) g none).trans hk (.inl rfl)⟩
theorem St.once {w0 wE w : World} {g go : Nat} {s0 : List Int} {s1 s2 : Int} {v : Value} {out : List S32} {ok : Nat → Prop} (h : St w0 wE w g go s0 s1 s2 v out ok) (n : Int) {r : Bool} {t1 t2 : Int} (hp : spec_l01Once.f s0 s1 s2 n = some (r, t1, t2)) :
    Calls Try.prog 149 #[.pointer (some ⟨g, 0, none⟩), .int .i64 n] w fun e w' => e = .returned (.bool r) ∧ St w0 wE w' g go s0 t1 t2 v out ok ∧ KeepBut w w' g none :=
  (spec_l01Once.calls g s0 s1 s2 n r t1 t2 w0 w h.inn h.bel hp).mono (fun e w' hh => ⟨hh.1, h.keepBut hh.2.2.2 hh.2.1 hh.2.2.1, hh.2.2.2⟩)
theorem St.below_ {w0 wE w : World} {g go : Nat} {s0 : List Int} {s1 s2 : Int} {v : Value} {out : List S32} {ok : Nat → Prop} (h : St w0 wE w g go s0 s1 s2 v out ok) (n : Int) {r : Int} {t1 t2 : Int} (hp : spec_l01Below.f s0 s1 s2 n = some (r, t1, t2)) :
    Calls Try.prog 132 #[.pointer (some ⟨g, 0, none⟩), .int .i64 n] w fun e w' => e = .returned (.int .i64 r) ∧ St w0 wE w' g go s0 t1 t2 v out ok ∧ KeepBut w w' g none :=
  (spec_l01Below.calls g s0 s1 s2 n r t1 t2 w0 w h.inn h.bel hp).mono (fun e w' hh => ⟨hh.1, h.keepBut hh.2.2.2 hh.2.1 hh.2.2.1, hh.2.2.2⟩)

theorem St.mono {w0 wE w : World} {g go : Nat} {s0 : List Int} {s1 s2 : Int} {v : Value} {out : List S32} {ok ok' : Nat → Prop} (h : St w0 wE w g go s0 s1 s2 v out ok) (hm : ∀ q, ok q → q < w.heap.size → ok' q) : St w0 wE w g go s0 s1 s2 v out ok' :=
  ⟨h.inn, h.bel, h.keep, h.goB, h.cell, Kd.S_mono (Kd.S_bound h.row) (fun k hk => hm k hk.1 hk.2.2.1)⟩
theorem St.base {w0 wE w : World} {g go : Nat} {s0 : List Int} {s1 s2 : Int} {v : Value} {out : List S32} {ok : Nat → Prop} (h : St w0 wE w g go s0 s1 s2 v out ok) : wE.heap.size ≤ w.heap.size := h.keep.1
/-- A store into a block that is none of the drawing's. -/
theorem St.setCell {w0 wE w : World} {g go gx : Nat} {s0 : List Int} {s1 s2 : Int} {v : Value} {out : List S32} {ok : Nat → Prop} (h : St w0 wE w g go s0 s1 s2 v out ok) (hx : ∀ q, ok q → q ≠ gx) (hg : gx ≠ g) (hgo : gx ≠ go) (hE : wE.heap.size ≤ gx) (h0 : w0.heap.size ≤ gx) (j : Nat) (u : Value) : St w0 wE (w.setCell ⟨gx, j, none⟩ u) g go s0 s1 s2 v out ok := by
  have hh : ∀ i, i ≠ gx → (w.setCell ⟨gx, j, none⟩ u).heap[i]? = w.heap[i]? := fun i hi => Below.heap_setCell w ⟨gx, j, none⟩ u i hi
  refine ⟨h.inn.far (fun e => hg e.symm) u, below_set h.bel h0, keep_far h.keep hE u, h.goB, (hh go (Ne.symm hgo)).trans h.cell, Kd.S_move h.row (fun k hk => hh k (hx k hk))⟩
theorem Fr.setCell {w w1 : World} {g go gx : Nat} {v v' : Value} (h : Fr w w1 g go v v') (hgx : w.heap.size ≤ gx) (j : Nat) (u : Value) : Fr w (w1.setCell ⟨gx, j, none⟩ u) g go v v' :=
  ⟨by simpa [World.setCell] using h.size, fun i hi hg hgo hv => (Below.heap_setCell w1 ⟨gx, j, none⟩ u i (by show i ≠ gx; omega)).trans (h.same i hi hg hgo hv), h.at_⟩

theorem St.own {w0 wE w : World} {g go : Nat} {s0 : List Int} {s1 s2 : Int} {v : Value} {out : List S32} {ok : Nat → Prop} (h : St w0 wE w g go s0 s1 s2 v out ok) : (some go ≠ v.ownBlock) ∧ (some g ≠ v.ownBlock) ∧ ∀ k, v.ownBlock = some k → ok k ∧ wE.heap.size ≤ k ∧ k < w.heap.size := by
  have ho := (Kd.S_R (Kd.S_bound h.row)).1
  refine ⟨fun e => ?_, fun e => ?_, fun k hk => ⟨(ho k hk).1, (ho k hk).2.1, (ho k hk).2.2.1⟩⟩
  · obtain ⟨_, _, _, q, hq, cs, hc⟩ := ho go e.symm
    rw [h.cell] at hc
    have h2 := Option.some.inj hc
    injection h2 with _ h3 _
    subst h3
    revert hq
    decide
  · obtain ⟨_, _, _, q, hq, cs, hc⟩ := ho g e.symm
    refine h.inn.ne_blk hc ?_ rfl
    rintro rfl
    revert hq
    decide
theorem St.append {w0 wE w w3 : World} {g go : Nat} {s0 : List Int} {s1 s2 : Int} {v v2 : Value} {out out2 : List S32} {ok1 ok : Nat → Prop} (h : St w0 wE w g go s0 s1 s2 v out ok1) (hw0 : w0.heap.size ≤ wE.heap.size) (hg : w.grownBy w3 v.ownBlock) (hb0 : Below wE.heap.size w w3) (row : Kd.S k32 32 w3 wE.heap.size ok v2 out2) : St w0 wE (w3.setCell ⟨go, 0, none⟩ v2) g go s0 s1 s2 v2 out2 ok := by
  obtain ⟨o1, o2, o3⟩ := h.own
  have hc3 := blk_grown h.cell hg o1
  have hh : ∀ i, i ≠ go → (w3.setCell ⟨go, 0, none⟩ v2).heap[i]? = w3.heap[i]? := fun i hi => Below.heap_setCell w3 ⟨go, 0, none⟩ v2 i hi
  have hw : ∀ i, i < wE.heap.size → w3.heap[i]? = w.heap[i]? := fun i hi => hg.block i (Nat.lt_of_lt_of_le hi h.base) (fun e => by have := (o3 i e.symm).2.1; omega)
  have hsz : (w3.setCell ⟨go, 0, none⟩ v2).heap.size = w3.heap.size := by simp [World.setCell]
  refine ⟨(h.inn.grown hg o2).far h.ne v2, ?_, ?_, h.goB, ?_, ?_⟩
  · exact below_set (h.bel.trans (hb0.mono hw0)) (Nat.le_trans hw0 h.goB)
  · refine ⟨by rw [hsz]; exact Nat.le_trans h.keep.1 hg.size, fun i hi hg2 hr => ?_⟩
    have := h.goB
    exact (hh i (by omega)).trans ((hw i hi).trans (h.keep.2 i hi hg2 hr))
  · exact blk_put hc3 0 v2 rfl
  · have hb := Kd.S_bound row
    refine Kd.S_mono (Kd.S_move hb (fun k hk => hh k ?_)) (fun k hk => hk.1)
    rintro rfl
    obtain ⟨q, hq, cs, hc⟩ := hk.2.2.2
    rw [hc3] at hc
    have h2 := Option.some.inj hc
    injection h2 with _ h3 _
    subst h3
    revert hq
    decide
theorem Fr.append {w w1 w3 : World} {g go : Nat} {v v1 v2 : Value} (h : Fr w w1 g go v v1) (hg : w1.grownBy w3 v1.ownBlock) (hat : v2.ownBlock = v1.ownBlock ∨ ∃ b, v2.ownBlock = some b ∧ w1.heap.size ≤ b) : Fr w (w3.setCell ⟨go, 0, none⟩ v2) g go v v2 := by
  have hh : ∀ i, i ≠ go → (w3.setCell ⟨go, 0, none⟩ v2).heap[i]? = w3.heap[i]? := fun i hi => Below.heap_setCell w3 ⟨go, 0, none⟩ v2 i hi
  refine Fr.trans h ⟨by simpa [World.setCell] using hg.size, fun i hi hg2 hgo hv => (hh i hgo).trans (hg.block i hi (fun e => hv e.symm)), hat⟩

theorem St.grown {w0 wE w w3 : World} {g go : Nat} {s0 : List Int} {s1 s2 : Int} {v : Value} {out : List S32} {ok : Nat → Prop} {row : Option Nat} (h : St w0 wE w g go s0 s1 s2 v out ok) (hw0 : w0.heap.size ≤ wE.heap.size) (hb : Below wE.heap.size w w3) (hg : w.grownBy w3 row) (h1 : some g ≠ row) (h2 : some go ≠ row) (h3 : ∀ q, ok q → some q ≠ row) : St w0 wE w3 g go s0 s1 s2 v out ok := by
  refine ⟨h.inn.grown hg h1, h.bel.trans (hb.mono hw0), ⟨Nat.le_trans h.keep.1 hg.size, fun i hi hg2 hr => (hb.block i hi).trans (h.keep.2 i hi hg2 hr)⟩, h.goB, blk_grown h.cell hg h2, ?_⟩
  exact Kd.S_mono (Kd.S_move (Kd.S_bound h.row) (fun k hk => hg.block k hk.2.2.1 (h3 k hk.1))) (fun k hk => hk.1)
/-- Where the drawing of a node's children stands. -/
structure Lp (w0 wE w wl : World) (g go gx : Nat) (s0 : List Int) (p1 p2 op : Int) (v v1 kv : Value) (acc : List Int) (out1 : List S32) (ok : Nat → Prop) : Prop where
  st : St w0 wE wl g go s0 p1 p2 v1 out1 (fun q => (ok q ∧ q ≠ gx) ∧ some q ≠ kv.ownBlock)
  fr : Fr w wl g go v v1
  lt : gx < wl.heap.size
  box : wl.heap[gx]? = some (.cells #[.int .i64 op, .int .i64 0, .string ⟨#[]⟩, kv] 32 (0, 0))
  row : Kd.R (Kd.int .i64) 3 wl wE.heap.size (fun q => some q = kv.ownBlock) kv acc
  new : ∀ q, kv.ownBlock = some q → w.heap.size ≤ q
theorem Lp.drewN {w0 wE w wl : World} {g go gx : Nat} {s0 : List Int} {p1 p2 op : Int} {v v1 kv : Value} {acc : List Int} {out1 : List S32} {ok : Nat → Prop} (h : Lp w0 wE w wl g go gx s0 p1 p2 op v v1 kv acc out1 ok) (n : Nat) : Lp w0 wE w (wl.drewN n) g go gx s0 p1 p2 op v v1 kv acc out1 ok :=
  ⟨h.st.move (Nat.le_refl _) (fun i hi _ => rfl) (h.st.inn.drewN n) (pw_below_drewN h.st.bel n), ⟨h.fr.size, h.fr.same, h.fr.at_⟩, h.lt, h.box, Kd.R_drewN h.row n, h.new⟩
theorem Lp.drew {w0 wE w wl : World} {g go gx : Nat} {s0 : List Int} {p1 p2 op : Int} {v v1 kv : Value} {acc : List Int} {out1 : List S32} {ok : Nat → Prop} (h : Lp w0 wE w wl g go gx s0 p1 p2 op v v1 kv acc out1 ok) : Lp w0 wE w wl.drew g go gx s0 p1 p2 op v v1 kv acc out1 ok :=
  ⟨h.st.move (Nat.le_refl _) (fun i hi _ => rfl) h.st.inn.drew (below_drew h.st.bel), ⟨h.fr.size, h.fr.same, h.fr.at_⟩, h.lt, h.box, Kd.R_drew h.row, h.new⟩
theorem Lp.drawn {w0 wE w wl wl2 : World} {g go gx : Nat} {s0 : List Int} {p1 p2 op : Int} {v v1 kv : Value} {acc : List Int} {out1 : List S32} {ok : Nat → Prop} (h : Lp w0 wE w wl g go gx s0 p1 p2 op v v1 kv acc out1 ok) (hd : Drawn0 wl wl2) : Lp w0 wE w wl2 g go gx s0 p1 p2 op v v1 kv acc out1 ok := by
  obtain ⟨n, rfl⟩ := hd.out
  exact h.drewN n
theorem Lp.gx_ne {w0 wE w wl : World} {g go gx : Nat} {s0 : List Int} {p1 p2 op : Int} {v v1 kv : Value} {acc : List Int} {out1 : List S32} {ok : Nat → Prop} (h : Lp w0 wE w wl g go gx s0 p1 p2 op v v1 kv acc out1 ok) : gx ≠ g ∧ gx ≠ go ∧ some gx ≠ v1.ownBlock ∧ some gx ≠ kv.ownBlock ∧ some g ≠ kv.ownBlock ∧ some go ≠ kv.ownBlock ∧ ∀ k, v1.ownBlock = some k → some k ≠ kv.ownBlock := by
  refine ⟨(h.st.inn.ne_blk h.box (by decide)).symm, ?_, ?_, ?_, ?_, ?_, fun k hk => (h.st.own.2.2 k hk).1.2⟩
  · rintro rfl
    have h2 := Option.some.inj (h.st.cell.symm.trans h.box)
    injection h2 with _ h3 _
    exact absurd h3 (by decide)
  · intro e
    exact (h.st.own.2.2 gx e.symm).1.1.2 rfl
  · intro e
    obtain ⟨_, _, _, q, hq, cs, hc⟩ := (Kd.R_bound h.row).1 gx e.symm
    have h2 := Option.some.inj (hc.symm.trans h.box)
    injection h2 with _ h3 _
    subst h3
    revert hq
    decide
  · intro e
    obtain ⟨_, _, _, q, hq, cs, hc⟩ := (Kd.R_bound h.row).1 g e.symm
    refine h.st.inn.ne_blk hc ?_ rfl
    rintro rfl
    revert hq
    decide
  · intro e
    obtain ⟨_, _, _, q, hq, cs, hc⟩ := (Kd.R_bound h.row).1 go e.symm
    have h2 := Option.some.inj (hc.symm.trans h.st.cell)
    injection h2 with _ h3 _
    subst h3
    revert hq
    decide
theorem Lp.call {w0 wE w wl w2 : World} {g go gx : Nat} {s0 : List Int} {p1 p2 t1 t2 op : Int} {v v1 v2 kv : Value} {acc : List Int} {out1 out2 : List S32} {ok : Nat → Prop} (h : Lp w0 wE w wl g go gx s0 p1 p2 op v v1 kv acc out1 ok) (hS : St w0 wE w2 g go s0 t1 t2 v2 out2 (fun q => (ok q ∧ q ≠ gx) ∧ some q ≠ kv.ownBlock)) (hF : Fr wl w2 g go v1 v2) : Lp w0 wE w w2 g go gx s0 t1 t2 op v v2 kv acc out2 ok := by
  obtain ⟨n1, n2, n3, n4, n5, n6, n7⟩ := h.gx_ne
  refine ⟨hS, h.fr.trans hF, Nat.lt_of_lt_of_le h.lt hF.size, (hF.same gx h.lt n1 n2 (fun e => n3 e.symm)).trans h.box, ?_, h.new⟩
  refine Kd.R_mono (Kd.R_move (Kd.R_bound h.row) (fun k hk => ?_)) (fun k hk => hk.1)
  exact hF.same k hk.2.2.1 (fun e => n5 (e ▸ hk.1)) (fun e => n6 (e ▸ hk.1)) (fun e => n7 k e hk.1)
theorem Lp.put {w0 wE w wl w3 : World} {g go gx : Nat} {s0 : List Int} {p1 p2 op : Int} {v v1 kv kv2 : Value} {acc acc2 : List Int} {out1 : List S32} {ok : Nat → Prop} (h : Lp w0 wE w wl g go gx s0 p1 p2 op v v1 kv acc out1 ok) (hw0 : w0.heap.size ≤ wE.heap.size) (hxE : wE.heap.size ≤ gx) (hxw : w.heap.size ≤ gx) (row : Kd.R (Kd.int .i64) 3 w3 wE.heap.size (fun q => some q = kv.ownBlock ∨ wl.heap.size ≤ q) kv2 acc2) (hb : Below wE.heap.size wl w3) (hg : wl.grownBy w3 kv.ownBlock) (hat : kv2.ownBlock = kv.ownBlock ∨ ∃ b, kv2.ownBlock = some b ∧ wl.heap.size ≤ b) : Lp w0 wE w (w3.setCell ⟨gx, 3, none⟩ kv2) g go gx s0 p1 p2 op v v1 kv2 acc2 out1 ok := by
  obtain ⟨n1, n2, n3, n4, n5, n6, n7⟩ := h.gx_ne
  have hS3 := h.st.grown hw0 hb hg n5 n6 (fun q hq => hq.2)
  have hx3 := blk_grown h.box hg n4
  have hS4 : St w0 wE w3 g go s0 p1 p2 v1 out1 (fun q => (ok q ∧ q ≠ gx) ∧ some q ≠ kv2.ownBlock) := by
    refine ⟨hS3.inn, hS3.bel, hS3.keep, hS3.goB, hS3.cell, ?_⟩
    refine Kd.S_mono (Kd.S_move (Kd.S_bound h.st.row) (fun k hk => hg.block k hk.2.2.1 hk.1.2)) (fun k hk => ⟨hk.1.1, ?_⟩)
    rcases hat with e | ⟨b, e, hbz⟩
    · rw [e]; exact hk.1.2
    · rw [e]; intro e2; have := Option.some.inj e2; have := hk.2.2.1; omega
  have hnew : ∀ q, kv2.ownBlock = some q → w.heap.size ≤ q := by
    rcases hat with e | ⟨b, e, hbz⟩
    · rw [e]; exact h.new
    · rw [e]; intro q e2; have := Option.some.inj e2; have := h.fr.size; omega
  have hh : ∀ i, i ≠ gx → (w3.setCell ⟨gx, 3, none⟩ kv2).heap[i]? = w3.heap[i]? := fun i hi => Below.heap_setCell w3 ⟨gx, 3, none⟩ kv2 i hi
  refine ⟨hS4.setCell (fun q hq => hq.1.2) n1 n2 hxE (Nat.le_trans hw0 hxE) 3 kv2, ?_, ?_, blk_put hx3 3 kv2 rfl, ?_, hnew⟩
  · refine Fr.setCell ⟨Nat.le_trans h.fr.size hg.size, fun i hi hgi hgo hv => ?_, h.fr.at_⟩ hxw 3 kv2
    exact (hg.block i (Nat.lt_of_lt_of_le hi h.fr.size) (fun e => by have := h.new i e.symm; omega)).trans (h.fr.same i hi hgi hgo hv)
  · have := h.lt; have := hg.size; simp [World.setCell]; omega
  · refine Kd.R_mono (Kd.R_move (Kd.R_bound (Kd.R_tight rfl row)) (fun k hk => hh k ?_)) (fun k hk => hk.1)
    rintro rfl
    obtain ⟨_, _, _, q, hq, cs, hc⟩ := hk
    have h2 := Option.some.inj (hc.symm.trans hx3)
    injection h2 with _ h3 _
    subst h3
    revert hq
    decide

set_option maxHeartbeats 8000000 in
set_option maxRecDepth 100000 in
theorem made_calls (w0 wE : World) (hw0 : w0.heap.size ≤ wE.heap.size) (g go : Nat) (s0 : List Int) (names : List ByteArray) (A2 : Option Addr) (c2 : Nat) (hN : Kd.C Kd.string wE A2 names.length names) (hc2 : names.length ≤ c2) (hf2 : ∀ ad, A2 = some ad → 0 < names.length → ad.block ≠ g) (k : Nat) :
    ∀ (deep s1 s2 : Int) (v : Value) (out : List S32) (ok : Nat → Prop) (w : World) (r t1 t2 : Int) (out' : List S32), (∀ q, w.heap.size ≤ q → ok q) → St w0 wE w g go s0 s1 s2 v out ok → spec_l04Made.f k s0 s1 s2 out names deep = some (r, t1, t2, out') →
      Calls Try.prog 141 #[.pointer (some ⟨g, 0, none⟩), .pointer (some ⟨go, 0, none⟩), .slice A2 names.length c2, .int .i64 deep] w fun e w' => e = .returned (.int .i64 r) ∧ ∃ v', St w0 wE w' g go s0 t1 t2 v' out' ok ∧ Fr w w' g go v v' := by
  induction k using Nat.strongRecOn with
  | _ k ih =>
  intro deep s1 s2 v out ok w r t1 t2 out' hok hSt h
  cases k with
  | zero => exact absurd h (by simp [spec_l04Made.f])
  | succ k =>
  simp only [spec_l04Made.f] at h
  replace h := Option.bind_eq_some_iff.mp h
  obtain ⟨⟨o1, o2, o3⟩, A1, h⟩ := h
  have HA1 := Aside0.mk A1
  have HS := Aside0.mk hSt
  have HH := Aside0.mk h
  have Hok := Aside0.mk hok
  have HN := Aside0.mk hN
  clear A1 h hSt hok hN
  have hls : ([1, 1, 2, 2, 3] : List Int).length ≤ 100 := by decide
  go_enter Try.func141, Try.ntmps141
  go_upto_region 2 with (go_at_call 137; refine (HS.out.pickInt [1, 1, 2, 2, 3] hls HA1.out).mono ?_; rintro e w1 ⟨rfl, hS1, hk1⟩)
  go_cut [9, 21] (fun v9 v21 wc => ∃ (more : Bool) (p1 p2 : Int), v9 = .int .i64 o1 ∧ v21 = .bool more ∧ Aside0 (if more = true then ((spec_l01PickInt.f s0 p1 p2 ([4, 4, 5, 6, 7, 8, 9, 10, 11] : List Int)).bind fun p => (spec_l04Made.j0 k s0 p.2.1 p.2.2 out names deep p.1)) = some (r, t1, t2, out') else spec_l04Made.j0 k s0 p1 p2 out names deep o1 = some (r, t1, t2, out')) ∧ Aside0 (St w0 wE wc g go s0 p1 p2 v out ok) ∧ Aside0 (KeepBut w wc g none))
  case first =>
    have HS1 := Aside0.mk hS1
    have HK1 := Aside0.mk hk1
    clear hS1 hk1
    have H := HH.out
    clear HH
    by_cases hd : 0 < deep
    · rw [if_pos hd] at H
      have d1 : decide (deep > 0) = true := decide_eq_true hd
      have d2 : decide (0 < deep) = true := decide_eq_true hd
      replace H := Option.bind_eq_some_iff.mp H
      obtain ⟨⟨q1, q2, q3⟩, B1, H⟩ := H
      have HB1 := Aside0.mk B1
      clear B1
      cases q1 with
      | true =>
        have H2 := Aside0.mk (show spec_l04Made.j0 k s0 q2 q3 out names deep o1 = some (r, t1, t2, out') from H)
        clear H
        go_wp2_with (go_at_call 149; refine (HS1.out.once 3 HB1.out).mono ?_; rintro e w2 ⟨rfl, hS2, hk2⟩)
        go_meet
        case rel => exact ⟨false, _, _, rfl, rfl, H2, ⟨hS2⟩, ⟨HK1.out.trans hk2 (.inl rfl)⟩⟩
      | false =>
        have H2 := Aside0.mk (show ((spec_l01PickInt.f s0 q2 q3 ([4, 4, 5, 6, 7, 8, 9, 10, 11] : List Int)).bind fun p => (spec_l04Made.j0 k s0 p.2.1 p.2.2 out names deep p.1)) = some (r, t1, t2, out') from H)
        clear H
        go_wp2_with (go_at_call 149; refine (HS1.out.once 3 HB1.out).mono ?_; rintro e w2 ⟨rfl, hS2, hk2⟩)
        go_meet
        case rel => exact ⟨true, _, _, rfl, rfl, H2, ⟨hS2⟩, ⟨HK1.out.trans hk2 (.inl rfl)⟩⟩
    · rw [if_neg hd] at H
      have d1 : decide (deep > 0) = false := decide_eq_false hd
      have d2 : decide (0 < deep) = false := decide_eq_false hd
      have H2 := Aside0.mk (show spec_l04Made.j0 k s0 o2 o3 out names deep o1 = some (r, t1, t2, out') from H)
      clear H
      go_wp2
      go_meet
      case rel => exact ⟨false, _, _, rfl, rfl, H2, HS1, HK1⟩
  case rest =>
  skip
  obtain ⟨more, p1, p2, rfl, rfl, HM, HSc, HKc⟩ := hcut
  skip
  refine (‹∀ (a : Act) (w : World), Code.wp Try.prog (Code.cond (Operand.tmp 21) _ _) _ a w → _›) _ _ ?_
  go_cut [9] (fun v9 wd => ∃ (op p1 p2 : Int), v9 = .int .i64 op ∧ Aside0 (spec_l04Made.j0 k s0 p1 p2 out names deep op = some (r, t1, t2, out')) ∧ Aside0 (St w0 wE wd g go s0 p1 p2 v out ok) ∧ Aside0 (KeepBut w wd g none))
  case first =>
    cases more with
    | true =>
      have H := Option.bind_eq_some_iff.mp (show ((spec_l01PickInt.f s0 p1 p2 ([4, 4, 5, 6, 7, 8, 9, 10, 11] : List Int)).bind fun p => (spec_l04Made.j0 k s0 p.2.1 p.2.2 out names deep p.1)) = some (r, t1, t2, out') from HM.out)
      obtain ⟨⟨y1, y2, y3⟩, C1, H⟩ := H
      have HC1 := Aside0.mk C1
      have H2 := Aside0.mk (show spec_l04Made.j0 k s0 y2 y3 out names deep y1 = some (r, t1, t2, out') from H)
      clear C1 H HM
      have hls2 : ([4, 4, 5, 6, 7, 8, 9, 10, 11] : List Int).length ≤ 100 := by decide
      go_wp2_with (go_at_call 137; refine (HSc.out.pickInt [4, 4, 5, 6, 7, 8, 9, 10, 11] hls2 HC1.out).mono ?_; rintro e w3 ⟨rfl, hS3, hk3⟩)
      go_meet
      case rel => exact ⟨_, _, _, rfl, H2, ⟨hS3⟩, ⟨HKc.out.trans hk3 (.inl rfl)⟩⟩
    | false =>
      have H2 := Aside0.mk (show spec_l04Made.j0 k s0 p1 p2 out names deep o1 = some (r, t1, t2, out') from HM.out)
      clear HM
      go_wp2
      go_meet
      case rel => exact ⟨_, _, _, rfl, H2, HSc, HKc⟩
  case rest =>
  obtain ⟨op, p1, p2, rfl, H0, HS2, HK2⟩ := hcut
  refine (‹∀ (a : Act) (w : World), Code.wp Try.prog (Code.seq (Code.region 4 _ _) _) _ a w → _›) _ _ ?_
  refine wp_seq_k (fun K4 hK4 => ?_)
  obtain ⟨gx, hgx⟩ : ∃ gx, gx = wc.heap.size := ⟨_, rfl⟩
  go_cut [10] (fun v10 wx => v10 = .pointer (some ⟨gx, 0, none⟩) ∧ Aside0 (St w0 wE wx g go s0 p1 p2 v out (fun q => (ok q ∧ q ≠ gx) ∧ some q ≠ (Value.slice none 0 0).ownBlock)) ∧ Aside0 (KeepBut w wx g none) ∧ Aside0 (gx < wx.heap.size) ∧ Aside0 (wx.heap[gx]? = some (.cells #[.int .i64 op, .int .i64 0, .string ⟨#[]⟩, .slice none 0 0] 32 (0, 0))) ∧ Aside0 (gx ≠ g) ∧ Aside0 (gx ≠ go) ∧ Aside0 (w.heap.size ≤ gx) ∧ Aside0 (wE.heap.size ≤ gx) ∧ Aside0 (w0.heap.size ≤ gx))
  case first =>
    subst hgx
    go_wp2
    go_meet
    case rel => exact ⟨rfl, ⟨((HS2.out.mono (ok' := fun q => (ok q ∧ q ≠ wc.heap.size) ∧ some q ≠ (Value.slice none 0 0).ownBlock) (fun q hq hl => ⟨⟨hq, by omega⟩, by simp [Value.ownBlock]⟩)).alloc _)⟩, ⟨HK2.out.trans (KeepBut.of_below (below_alloc (Below.refl _ _) _) g none) (.inl rfl)⟩, ⟨by simp⟩, ⟨heap_alloc_new _ _⟩, ⟨by have := HS2.out.inn.lt; omega⟩, ⟨by have := blk_lt HS2.out.cell; omega⟩, ⟨HK2.out.1⟩, ⟨HS2.out.base⟩, ⟨HS2.out.bel.size⟩⟩
  case rest =>
  clear hgx
  obtain ⟨rfl, HS3, HK3, HL3, HX3, HG1, HG2, HG3, HG4, HG5⟩ := hcut
  refine hK4 _ _ ?_
  refine wp_seq_k (fun K5 hK5 => ?_)
  clear hK4 K4
  cases k with
  | zero => exact absurd H0.out (by simp [spec_l04Made.j0])
  | succ k =>
  have H := H0.out
  clear H0
  simp only [spec_l04Made.j0] at H
  have HH := Aside0.mk H
  clear H
  go_cut [] (fun wz => ∃ (kq : Nat) (q1 q2 num : Int) (name : ByteArray) (kv v1 : Value) (kids : List Int) (out1 : List S32), Aside0 (spec_l04Made.e0 kq q1 q2 out1 ⟨op, num, name, kids⟩ = some (r, t1, t2, out')) ∧ Aside0 (St w0 wE wz g go s0 q1 q2 v1 out1 (fun q => (ok q ∧ q ≠ gx) ∧ some q ≠ kv.ownBlock)) ∧ Aside0 (Fr w wz g go v v1) ∧ Aside0 (gx < wz.heap.size) ∧ Aside0 (wz.heap[gx]? = some (.cells #[.int .i64 op, .int .i64 num, .string name, kv] 32 (0, 0))) ∧ Aside0 (Kd.R (Kd.int .i64) 3 wz wE.heap.size (fun q => ok q) kv kids))
  case first =>
    have H := HH.out
    clear HH
    by_cases c1 : op = 1
    · rw [if_pos c1] at H
      have c1b : (op == 1) = true := beq_iff_eq.2 c1
      clear c1
      replace H := Option.bind_eq_some_iff.mp H
      obtain ⟨⟨n1, n2, n3⟩, B1, H⟩ := H
      have HB1 := Aside0.mk B1
      have H2 := Aside0.mk (show spec_l04Made.e0 k n2 n3 out ⟨op, n1, ⟨#[]⟩, []⟩ = some (r, t1, t2, out') from H)
      clear B1 H
      have hls3 : ([0, 1, 2, 3, 9, 99] : List Int).length ≤ 100 := by decide
      go_wp2_with (go_at_call 137; refine (HS3.out.pickInt [0, 1, 2, 3, 9, 99] hls3 HB1.out).mono ?_; rintro e w3 ⟨rfl, hS4, hk4⟩; have hb4 := (hk4.2 gx HL3.out HG1.out (by simp)).trans HX3.out; have hz1 : w3.cell? ⟨gx, 1, none⟩ = some (.int .i64 0) := (blk_cell hb4 1).trans rfl; have hf1 := blk_frozen hb4 1; have HS4 := Aside0.mk hS4; have HK4 := Aside0.mk hk4; have HB4 := Aside0.mk hb4; clear hS4 hk4 hb4)
      go_meet
      case rel => exact ⟨k, n2, n3, n1, ⟨#[]⟩, .slice none 0 0, v, [], out, H2, ⟨HS4.out.setCell (fun q hq => hq.1.2) HG1.out HG2.out HG4.out HG5.out 1 _⟩, ⟨(KeepBut.fr (HK3.out.trans HK4.out (.inl rfl)) go v).setCell HG3.out 1 _⟩, ⟨by have := HK4.out.1; have := HL3.out; simp [World.setCell]; omega⟩, ⟨blk_put HB4.out 1 _ rfl⟩, ⟨Kd.R_nil _ _ _ _ _⟩⟩
    · rw [if_neg c1] at H
      have c1b : (op == 1) = false := beq_eq_false_iff_ne.2 c1
      by_cases c2 : op = 2
      · rw [if_pos c2] at H
        have c2b : (op == 2) = true := beq_iff_eq.2 c2
        clear c1 c2
        by_cases l0 : 0 < (names.length : Int)
        case neg => rw [if_neg l0] at H; exact absurd H (by simp)
        rw [if_pos l0] at H
        replace H := Option.bind_eq_some_iff.mp H
        obtain ⟨⟨n1, n2, n3⟩, B1, H⟩ := H
        have HB1 := Aside0.mk B1
        clear B1
        by_cases l1 : 0 ≤ n1
        case neg => simp [l1] at H
        by_cases l2 : n1 < (names.length : Int)
        case neg => simp [l1, l2] at H
        have H2 := Aside0.mk (show spec_l04Made.e0 k n2 n3 out ⟨op, 0, rdOf ByteArray.empty names n1, []⟩ = some (r, t1, t2, out') by simpa [l1, l2] using H)
        clear H
        obtain ⟨ad, ea, hx0⟩ := Kd.at_string HN.out n1 l1 l2
        have hne : (ad.add n1.toNat).block ≠ g := by rw [add_block]; exact hf2 ad ea (by omega)
        cases ea
        have HX0 := Aside0.mk hx0
        have HNE := Aside0.mk hne
        clear hx0 hne
        have l0b : ((names.length : Int) == 0) = false := beq_eq_false_iff_ne.2 (by omega)
        have p1_ : (0 ≤ n1) = True := eq_true l1
        have p2_ : (n1 < (names.length : Int)) = True := eq_true l2
        clear l0 l1 l2
        go_wp2_with (go_at_call 132; refine (HS3.out.below_ (names.length : Int) HB1.out).mono ?_; rintro e w3 ⟨rfl, hS4, hk4⟩; have hb4 := (hk4.2 gx HL3.out HG1.out (by simp)).trans HX3.out; have hz1 : w3.cell? ⟨gx, 2, none⟩ = some (.string ⟨#[]⟩) := (blk_cell hb4 2).trans rfl; have hf1 := blk_frozen hb4 2; have hx1 := keep_cell hS4.keep HX0.out HNE.out; have HS4 := Aside0.mk hS4; have HK4 := Aside0.mk hk4; have HB4 := Aside0.mk hb4; clear hS4 hk4 hb4)
        go_meet
        case rel => exact ⟨k, n2, n3, 0, rdOf ByteArray.empty names n1, .slice none 0 0, v, [], out, H2, ⟨HS4.out.setCell (fun q hq => hq.1.2) HG1.out HG2.out HG4.out HG5.out 2 _⟩, ⟨(KeepBut.fr (HK3.out.trans HK4.out (.inl rfl)) go v).setCell HG3.out 2 _⟩, ⟨by have := HK4.out.1; have := HL3.out; simp [World.setCell]; omega⟩, ⟨blk_put HB4.out 2 _ rfl⟩, ⟨Kd.R_nil _ _ _ _ _⟩⟩
      · rw [if_neg c2] at H
        have c2b : (op == 2) = false := beq_eq_false_iff_ne.2 c2
        by_cases c3 : op = 3
        · rw [if_pos c3] at H
          have c3b : (op == 3) = true := beq_iff_eq.2 c3
          have c3n : (op != 3) = false := bne_eq_false_iff_eq.2 c3
          have H2 := Aside0.mk H
          clear H c1 c2 c3
          go_wp2
          go_meet
          case rel => exact ⟨k, p1, p2, 0, ⟨#[]⟩, .slice none 0 0, v, [], out, H2, HS3, ⟨KeepBut.fr HK3.out go v⟩, HL3, HX3, ⟨Kd.R_nil _ _ _ _ _⟩⟩
        · rw [if_neg c3] at H
          have c3b : (op == 3) = false := beq_eq_false_iff_ne.2 c3
          have c3n : (op != 3) = true := bne_iff_ne.2 c3
          clear hK5 K5 c1 c2 c3
          have H2 := Aside0.mk H
          clear H
          have HL0 : Aside0 (Lp w0 wE w wc g go gx s0 p1 p2 op v v (.slice none 0 0) [] out ok) := ⟨⟨HS3.out, KeepBut.fr HK3.out go v, HL3.out, HX3.out, Kd.R_nil _ _ _ _ _, fun q hq => by simp [Value.ownBlock] at hq⟩⟩
          clear HS3 HK3 HL3 HX3 HH HM
          go_wp2
          go_loopg [11] k (fun kq v11 wl => ∃ (i p1 p2 : Int) (kv v1 : Value) (acc : List Int) (out1 : List S32), v11 = .int .i64 i ∧ Aside0 (spec_l04Made.l0 kq s0 p1 p2 out1 names deep op i acc = some (r, t1, t2, out')) ∧ Aside0 (kq ≤ k) ∧ Aside0 (Lp w0 wE w wl g go gx s0 p1 p2 op v v1 kv acc out1 ok))
          case atStart => exact ⟨0, p1, p2, .slice none 0 0, v, [], out, rfl, H2, ⟨Nat.le_refl _⟩, HL0⟩
          case round =>
            clear H2 HL0
            obtain ⟨i, q1, q2, kv, v1, acc, out1, rfl, HA, HKq, HLp⟩ := hrel
            cases gk with
            | zero => exact absurd HA.out (by simp [spec_l04Made.l0])
            | succ k1 =>
              have H := HA.out
              clear HA
              simp only [spec_l04Made.l0] at H
              replace H := Option.bind_eq_some_iff.mp H
              obtain ⟨n, B1, H⟩ := H
              have HB1 := Aside0.mk B1
              clear B1
              by_cases hlt : i < n
              · rw [if_pos hlt] at H
                have d1 : decide (i < n) = true := decide_eq_true hlt
                clear hlt
                replace H := Option.bind_eq_some_iff.mp H
                obtain ⟨⟨x1, x2, x3, x4⟩, B2, H⟩ := H
                have HB2 := Aside0.mk B2
                clear B2
                by_cases hlim : acc.length < 17592186044416
                case neg => simp [hlim] at H
                have H3 := Aside0.mk (show spec_l04Made.l0 k1 s0 x2 x3 x4 names deep op (wrap64 (i + 1)) (acc ++ [x1]) = some (r, t1, t2, out') by simpa [hlim] using H)
                clear H
                have HLim := Aside0.mk hlim
                clear hlim
                go_upto_region 15 with (go_at_call 71; refine (spec_l04Kids.calls _ _ n _ HB1.out).mono ?_; rintro e w5 ⟨rfl, hd5⟩; have HL5 := Aside0.mk (HLp.out.drawn hd5); clear hd5)
                have hk5 : w5.cell? ⟨gx, 3, none⟩ = some kv := (blk_cell HL5.out.box 3).trans rfl
                have hk5b : wE.heap.size ≤ w5.heap.size := HL5.out.st.base
                have hokc : ∀ q, w5.drew.heap.size ≤ q → (ok q ∧ q ≠ gx) ∧ some q ≠ kv.ownBlock := fun q hq => ⟨⟨Hok.out q (Nat.le_trans HL5.out.fr.size hq), fun e => by have h8 := HL5.out.lt; have h9 : w5.heap.size ≤ q := hq; omega⟩, fun e => by have h8 := ((Kd.R_bound HL5.out.row).1 q e.symm).2.2.1; have h9 : w5.heap.size ≤ q := hq; omega⟩
                have HOKC := Aside0.mk hokc
                have hcc := ih k1 (by have := HKq.out; omega) (wrap64 (deep - 1)) q1 q2 v1 out1 _ w5.drew x1 x2 x3 x4 hokc HL5.out.drew.st HB2.out
                rw [show wrap64 (deep - 1) = IntKind.i64.wrap (deep - 1) from (IntWalk.i64_left _).symm] at hcc
                have HCC := Aside0.mk hcc
                clear hcc
                clear hokc
                go_region_law (first | (refine Kd.R_append_step (W := w2) (w0 := w2) (Kd.int .i64) wE.heap.size ?aW (.tmp 59) (.tmp 66) 30 3 (.int .i64 0) 8 ?aH Try.underlying30 info3 rfl (by decide) (by decide) kv acc x1 [.int .i64 x1] (fun q => some q = kv.ownBlock ∨ w2.heap.size ≤ q) (fun _ => False) ?a1 ?a2 ?aP ?aK ?aF ?aO ?aB ?aS ?aL ?_; (case aW => rfl); (case aH => rfl); (case a1 => rfl); (case a2 => rfl); (case aP => rfl); (case aK => exact fun _ hq => hq.elim); (case aF => exact fun q hq => Or.inr hq); (case aO => exact Kd.R_mono HL7.out.row (fun q hq => Or.inl hq)); (case aB => exact Below.refl _ _); (case aS => exact HL7.out.st.base); (case aL => (have := HLim.out; omega)); intro kv2 w3 ho hb hg hat; obtain ⟨Ao, co, eo⟩ := Kd.R_slice ho; subst eo; have hx3 := blk_grown HL7.out.box hg HL7.out.gx_ne.2.2.2.1; have hzc : w3.cell? ⟨gx, 3, none⟩ = some kv := (blk_cell hx3 3).trans rfl; have hzf := blk_frozen hx3 3; have HO5 := Aside0.mk ho; have HB5 := Aside0.mk hb; have HG5' := Aside0.mk hg; have HAT := Aside0.mk hat; clear ho hb hg hat hx3) | (go_simp; go_at_call 141; refine HCC.out.mono ?_; rintro e w2 ⟨rfl, v7, hS7, hF7⟩; have HL7 := Aside0.mk (HL5.out.drew.call hS7 hF7); clear hS7 hF7; have hk7 : w2.cell? ⟨gx, 3, none⟩ = some kv := (blk_cell HL7.out.box 3).trans rfl; have hk8 : ∀ o, (w2.alloc o).cell? ⟨gx, 3, none⟩ = some kv := fun o => (blk_cell (blk_alloc HL7.out.box o) 3).trans rfl))
                all_goals (
                  have hl : (acc ++ [x1]).length = acc.length + 1 := by simp
                  rw [hl] at HO5 HAT
                  have HL8 := Aside0.mk (HL7.out.put hw0 HG4.out HG3.out HO5.out HB5.out HG5'.out HAT.out)
                  clear HO5 HB5 HG5' HAT HL7 HCC HOKC HL5 HLp hk7 hk8 hzc hzf hk5 hk5b
                  go_wp2
                  go_roundg k1
                  case measure => exact Nat.lt_succ_self _
                  case rel => exact ⟨wrap64 (i + 1), x2, x3, _, v7, acc ++ [x1], x4, rfl, H3, ⟨by have := HKq.out; omega⟩, HL8⟩)
              · rw [if_neg hlt] at H
                have d1 : decide (i < n) = false := decide_eq_false hlt
                have H3 := Aside0.mk (show spec_l04Made.e0 k1 q1 q2 out1 ⟨op, 0, ⟨#[]⟩, acc⟩ = some (r, t1, t2, out') from H)
                clear hlt H
                go_wp2_with (go_at_call 71; refine (spec_l04Kids.calls _ _ n _ HB1.out).mono ?_; rintro e w5 ⟨rfl, hd5⟩; have HL5 := Aside0.mk (HLp.out.drawn hd5); clear hd5)
                go_meet
                case rel => exact ⟨k1, q1, q2, 0, ⟨#[]⟩, kv, v1, acc, out1, H3, ⟨HL5.out.st⟩, ⟨HL5.out.fr⟩, ⟨HL5.out.lt⟩, ⟨HL5.out.box⟩, ⟨Kd.R_reok rfl HL5.out.row (fun q hq => Hok.out q (HL5.out.new q hq))⟩⟩
  case rest =>
  clear HS3 HK3 HL3 HX3 HH
  obtain ⟨kq, q1, q2, num, name, kv, v1, kids, out1, HE, HS4, HF4, HL4, HX4, HR4⟩ := hcut
  refine hK5 _ _ ?_
  clear hK5 K5
  cases kq with
  | zero => exact absurd HE.out (by simp [spec_l04Made.e0])
  | succ kq =>
  have H := HE.out
  clear HE
  simp only [spec_l04Made.e0] at H
  by_cases hlim : out1.length < 2513169434916
  case neg => rw [if_neg hlim] at H; exact absurd H (by simp)
  rw [if_pos hlim] at H
  simp only [Option.some.injEq, Prod.mk.injEq] at H
  obtain ⟨hr, rfl, rfl, rfl⟩ := H
  have HR := Aside0.mk hr
  clear hr
  have HLim := Aside0.mk hlim
  clear hlim
  have hgo0 : wc.cell? ⟨go, 0, none⟩ = some v1 := (blk_cell HS4.out.cell 0).trans rfl
  have hgo1 : ∀ o, (wc.alloc o).cell? ⟨go, 0, none⟩ = some v1 := fun o => (blk_cell (((below_alloc (Below.refl _ _) o).block go (blk_lt HS4.out.cell)).trans HS4.out.cell) 0).trans rfl
  have hxx0 : wc.cell? ⟨gx, 0, none⟩ = some (.int .i64 op) := (blk_cell HX4.out 0).trans rfl
  have hxx1 : wc.cell? ⟨gx, 1, none⟩ = some (.int .i64 num) := (blk_cell HX4.out 1).trans rfl
  have hxx2 : wc.cell? ⟨gx, 2, none⟩ = some (.string name) := (blk_cell HX4.out 2).trans rfl
  have hxx3 : wc.cell? ⟨gx, 3, none⟩ = some kv := (blk_cell HX4.out 3).trans rfl
  have hsz1 := HS4.out.base
  have hok2 : ∀ q, wc.heap.size ≤ q → ok q := fun q hq => Hok.out q (Nat.le_trans HF4.out.size hq)
  have hap : ∀ q, some q = kv.ownBlock → ok q ∧ some q ≠ v1.ownBlock := fun q hq => ⟨HR4.out.1 q hq.symm, fun e => (HS4.out.own.2.2 q e.symm).1.2 hq⟩
  have HAP := Aside0.mk hap
  have HOK2 := Aside0.mk hok2
  have HSZ1 := Aside0.mk hsz1
  clear hap hok2 hsz1
  have hw0' := Aside0.mk hw0
  refine wp_seq_k (fun K6 hK6 => ?_)
  go_region_law (refine Kd.S_append_step (W := wc.drew) (w0 := wc.drew) k32 wE.heap.size ?aW (.tmp 72) (.tmp 74) 24 32 (.agg #[(.int .i64 0), (.int .i64 0), (.string ⟨#[]⟩), (.slice none 0 0)]) 56 ?aH Try.underlying24 info32 rfl (by decide) (by decide) v1 out1 ⟨op, num, name, kids⟩ [.int .i64 op, .int .i64 num, .string name, kv] ok (fun q => some q = kv.ownBlock) ?a1 ?a2 ?aP ?aK ?aF ?aO ?aB ?aS ?aL ?_; (case aW => rfl); (case aH => rfl); (case a1 => rfl); (case a2 => rfl); (case aP => exact k32_mkM _ _ _ _ (Kd.R_tight rfl HR4.out)); (case aK => exact HAP.out); (case aF => exact HOK2.out); (case aO => exact (Kd.S_mono HS4.out.row (fun q hq => ⟨hq.1.1, fun e => hq.2 e⟩))); (case aB => exact Below.refl _ _); (case aS => exact HSZ1.out); (case aL => (have := HLim.out; omega)); intro v2 w3 ho hb hg hat; obtain ⟨Ao, co, eo⟩ := Kd.R_slice (Kd.S_R ho); subst eo; have hbgo := blk_grown (show wc.drew.heap[go]? = _ from HS4.out.cell) hg HS4.out.own.1; have hzc : w3.cell? ⟨go, 0, none⟩ = some v1 := (blk_cell hbgo 0).trans rfl; have hzf := blk_frozen hbgo 0; have HO5 := Aside0.mk ho; have HB5 := Aside0.mk hb; have HG5' := Aside0.mk hg; have HAT := Aside0.mk hat; clear ho hb hg hat hbgo)
  all_goals (
    refine hK6 _ _ ?_
    have hl : (out1 ++ [(⟨op, num, name, kids⟩ : S32)]).length = out1.length + 1 := by simp
    rw [hl] at HO5 HAT HR
    have hF := HS4.out.append hw0'.out ⟨HG5'.out.1, HG5'.out.2, HG5'.out.3, HG5'.out.4, HG5'.out.5⟩ ⟨HB5.out.1, HB5.out.2, HB5.out.3, HB5.out.4, HB5.out.5⟩ HO5.out
    have hFr := HF4.out.append (w3 := w3) (v2 := Value.slice Ao (out1.length + 1) co) ⟨HG5'.out.1, HG5'.out.2, HG5'.out.3, HG5'.out.4, HG5'.out.5⟩ HAT.out
    have hcz := (blk_cell hF.cell 0).trans (show _ = some (Value.slice Ao (out1.length + 1) co) from rfl)
    have HF7 := Aside0.mk hF
    have HFr7 := Aside0.mk hFr
    clear hF hFr hK6 HO5 HB5 HG5' HAT HH HM HS4 HF4
    go_wp2
    have hr2 : wrap64 (out1.length : Int) = r := by
      have h9 := HR.out
      rw [show (((out1.length + 1 : Nat) : Int) - 1) = (out1.length : Int) from by omega] at h9
      exact h9
    go_ret
    exact ⟨by rw [hr2]; rfl, _, HF7.out, HFr7.out⟩)

theorem S_fresh0 (w : World) (base : Nat) (hb : base ≤ w.heap.size) (ok : Nat → Prop) (hok : ok w.heap.size) : Kd.S k32 32 (w.alloc (.cells #[] 32)) base ok (.slice (some ⟨w.heap.size, 0, none⟩) 0 0) [] := by
  refine Kd.S_bare ⟨fun k hk => ?_, [], ?_, ⟨rfl, fun j p hj => by simp at hj⟩⟩
  · have h2 : w.heap.size = k := by simpa [Value.ownBlock] using hk
    subst h2
    exact hok
  · have h2 := World.ownsRow_lit (base := base) (e := 32) (size := (Kd.bare k32).sz) w #[] 0 hb (by decide) (by simp)
    simpa using h2

set_option maxHeartbeats 4000000 in
theorem spec_l04Expr.calls (k : Nat) (g : Nat) (s0_0 : List Int) (s0_1 : Int) (s0_2 : Int) (A1 : Option Addr) (c1 : Nat) (l1 : List ByteArray) (a2 : Int) (r1 : List S32) (r2 : Int) (r3 : Int) (w0 w : World) (hI : IsS190 w0 w g s0_0 s0_1 s0_2) (hB : Below w0.heap.size w0 w) (hr1 : Kd.C Kd.string w A1 l1.length l1) (hc1 : l1.length ≤ c1) (hf1 : ∀ ad, A1 = some ad → 0 < l1.length → ad.block ≠ g) (h : spec_l04Expr.f k s0_0 s0_1 s0_2 l1 a2 = some (r1, r2, r3)) :
    Calls Try.prog 69 #[.pointer (some ⟨g, 0, none⟩), .slice A1 l1.length c1, .int .i64 a2] w fun e w' => ∃ v0_, e = .returned (.agg #[v0_]) ∧ Kd.S k32 32 w' w.heap.size (fun _ => True) v0_ r1 ∧ IsS190 w0 w' g s0_0 r2 r3 ∧ Below w0.heap.size w0 w' ∧ KeepBut w w' g none := by
  obtain ⟨⟨q1, q2, q3, q4⟩, A2, h⟩ := Option.bind_eq_some_iff.mp (show ((spec_l04Made.f k s0_0 s0_1 s0_2 ([] : List S32) l1 a2).bind fun r => some (r.2.2.2, r.2.1, r.2.2.1)) = some (r1, r2, r3) from h)
  simp only [Option.some.injEq, Prod.mk.injEq] at h
  obtain ⟨rfl, rfl, rfl⟩ := h
  have HA := Aside0.mk A2
  have HI := Aside0.mk hI
  have HB := Aside0.mk hB
  have HR := Aside0.mk hr1
  have HF := Aside0.mk hf1
  have HC := Aside0.mk hc1
  clear A2 hI hB hr1 hf1 hc1
  go_enter Try.func69, Try.ntmps69
  have hk0 : KeepBut w (((w.alloc (Obj.cells #[Value.slice none 0 0] 26)).alloc (Obj.cells #[] 32)).alloc (Obj.cells #[Value.slice (some ⟨w.heap.size + 1, 0, none⟩) 0 0] 24)) g none := KeepBut.of_below (below_alloc (below_alloc (below_alloc (Below.refl _ _) _) _) _) g none
  have hs0 : Kd.S k32 32 (((w.alloc (Obj.cells #[Value.slice none 0 0] 26)).alloc (Obj.cells #[] 32)).alloc (Obj.cells #[Value.slice (some ⟨w.heap.size + 1, 0, none⟩) 0 0] 24)) w.heap.size (fun _ => True) (.slice (some ⟨w.heap.size + 1, 0, none⟩) 0 0) [] := by
    refine Kd.S_below ?_ (below_alloc (Below.refl _ _) _)
    have h9 := S_fresh0 (w.alloc (Obj.cells #[Value.slice none 0 0] 26)) w.heap.size (by simp) (fun _ => True) trivial
    simpa using h9
  have hst : St w0 w (((w.alloc (Obj.cells #[Value.slice none 0 0] 26)).alloc (Obj.cells #[] 32)).alloc (Obj.cells #[Value.slice (some ⟨w.heap.size + 1, 0, none⟩) 0 0] 24)) g (w.heap.size + 1 + 1) s0_0 s0_1 s0_2 (.slice (some ⟨w.heap.size + 1, 0, none⟩) 0 0) [] (fun _ => True) :=
    ⟨((HI.out.alloc _).alloc _).alloc _, below_alloc (below_alloc (below_alloc HB.out _) _) _, hk0, by omega, by simpa using heap_alloc_new ((w.alloc (Obj.cells #[Value.slice none 0 0] 26)).alloc (Obj.cells #[] 32)) (Obj.cells #[Value.slice (some ⟨w.heap.size + 1, 0, none⟩) 0 0] 24), hs0⟩
  have hcall := Aside0.mk (made_calls w0 w HB.out.size g (w.heap.size + 1 + 1) s0_0 l1 A1 c1 HR.out HC.out HF.out k a2 s0_1 s0_2 _ [] (fun _ => True) _ q1 q2 q3 q4 (fun _ _ => trivial) hst HA.out)
  have hbx : (((w.alloc (Obj.cells #[Value.slice none 0 0] 26)).alloc (Obj.cells #[] 32)).alloc (Obj.cells #[Value.slice (some ⟨w.heap.size + 1, 0, none⟩) 0 0] 24)).heap[w.heap.size]? = some (.cells #[Value.slice none 0 0] 26 (0, 0)) := blk_alloc (blk_alloc (heap_alloc_new _ _) _) _
  have HBX := Aside0.mk hbx
  have HNG := Aside0.mk (show w.heap.size ≠ g by have := HI.out.lt; omega)
  have HK0 := Aside0.mk hk0
  clear hk0 hs0 hst hbx
  go_wp2_with (go_at_call 141; refine hcall.out.mono ?_; rintro e w6 ⟨rfl, v6, hS6, hF6⟩; obtain ⟨Ao, co, eo⟩ := Kd.R_slice (Kd.S_R hS6.row); subst eo; have hb6 := (hF6.same w.heap.size (by simp; omega) HNG.out (by omega) (by simp [Value.ownBlock])).trans HBX.out; have hz6 : w6.cell? ⟨w.heap.size, 0, none⟩ = some (.slice none 0 0) := (blk_cell hb6 0).trans rfl; have hz7 := blk_frozen hb6 0; have hz8 := (blk_cell hS6.cell 0).trans (show _ = some (Value.slice Ao q4.length co) from rfl); have HS6 := Aside0.mk hS6; have HF6 := Aside0.mk hF6; have HB6 := Aside0.mk hb6; clear hS6 hF6 hb6)
  have hz9 := (blk_cell (blk_put HB6.out 0 (Value.slice Ao q4.length co) rfl) 0).trans (show _ = some (Value.slice Ao q4.length co) from rfl)
  have hrow : Kd.S k32 32 (w6.setCell ⟨w.heap.size, 0, none⟩ (Value.slice Ao q4.length co)) w.heap.size (fun _ => True) (Value.slice Ao q4.length co) q4 := by
    refine Kd.S_mono (Kd.S_move (Kd.S_bound HS6.out.row) (fun k hk => Below.heap_setCell w6 ⟨w.heap.size, 0, none⟩ _ k ?_)) (fun k hk => trivial)
    rintro rfl
    obtain ⟨q, hq, cs, hc⟩ := hk.2.2.2
    rw [HB6.out] at hc
    have h2 := Option.some.inj hc
    injection h2 with _ h3 _
    subst h3
    revert hq
    decide
  have HROW := Aside0.mk hrow
  clear hrow
  have bx := blk_put HB6.out 0 (Value.slice Ao q4.length co) rfl
  try simp only [Exit.inBlock, Exit.then]
  refine bodyPost_ret (results_cell_row rfl _ _ w.heap.size 26 #[.slice Ao q4.length co] (0, 0) _ rfl bx Try.underlying26 rfl (by kernel_rfl)) rfl ?_
  exact ⟨_, rfl, HROW.out, HS6.out.inn.far (fun e => HNG.out e.symm) _, below_set HS6.out.bel HB.out.size, keep_far HS6.out.keep (Nat.le_refl _) _⟩


/-! ### spec_l01Pick: function 133 -/
def spec_l01Pick.f (s0_0 : List Int) (s0_1 : Int) (s0_2 : Int) (l1 : List ByteArray) : Option (ByteArray × Int × Int) := (spec_l01Below.f s0_0 s0_1 s0_2 (l1.length : Int)).bind fun bt124 => (if 0 ≤ bt124.1 then (if bt124.1 < (l1.length : Int) then (some (rdOf ByteArray.empty l1 bt124.1, bt124.2.1, bt124.2.2)) else (none)) else (none))
set_option maxHeartbeats 8000000 in
set_option maxRecDepth 100000 in
theorem spec_l01Pick.calls (g : Nat) (s0_0 : List Int) (s0_1 : Int) (s0_2 : Int) (A1 : Option Addr) (c1 : Nat) (l1 : List ByteArray) (r1 : ByteArray) (r2 : Int) (r3 : Int) (w0 w : World) (hI : IsS190 w0 w g s0_0 s0_1 s0_2) (hB : Below w0.heap.size w0 w) (hr1 : Kd.C Kd.string w A1 l1.length l1) (hc1 : l1.length ≤ c1) (hf1 : ∀ ad, A1 = some ad → 0 < l1.length → ad.block ≠ g) (h : spec_l01Pick.f s0_0 s0_1 s0_2 l1 = some (r1, r2, r3)) :
    Calls Try.prog 133 #[.pointer (some ⟨g, 0, none⟩), .slice A1 l1.length c1] w fun e w' => e = .returned (.string r1) ∧ IsS190 w0 w' g s0_0 r2 r3 ∧ Below w0.heap.size w0 w' ∧ KeepBut w w' g none := by
  have HR1 := Aside0.mk hr1
  have HC1 := Aside0.mk hc1
  clear hr1 hc1
  have HI0 := Aside0.mk hI
  have HK := Aside0.mk (KeepBut.refl w g none)
  have HL := Aside0.mk hB.size
  clear hI
  have HW0 := Aside0.mk hB.size
  have HB := Aside0.mk hB
  clear hB
  have H : ((spec_l01Below.f s0_0 s0_1 s0_2 (l1.length : Int)).bind fun bt124 => (if 0 ≤ bt124.1 then (if bt124.1 < (l1.length : Int) then (some (rdOf ByteArray.empty l1 bt124.1, bt124.2.1, bt124.2.2)) else (none)) else (none))) = some (r1, r2, r3) := h
  clear h
  replace H := Option.bind_eq_some_iff.mp H
  obtain ⟨⟨t124, t125, t126⟩, A30, H⟩ := H
  replace H : (if 0 ≤ t124 then (if t124 < (l1.length : Int) then (some (rdOf ByteArray.empty l1 t124, t125, t126)) else (none)) else (none)) = some (r1, r2, r3) := H
  have A3 := Aside0.mk A30
  clear A30
  by_cases c4 : 0 ≤ t124
  · rw [if_pos c4] at H
    have c4b0 : decide (0 ≤ t124) = true := decide_eq_true c4
    clear c4
    by_cases c5 : t124 < (l1.length : Int)
    · rw [if_pos c5] at H
      have c5b0 : decide (t124 < (l1.length : Int)) = true := decide_eq_true c5
      clear c5
      simp only [Option.some.injEq, Prod.mk.injEq] at H
      obtain ⟨rfl, rfl, rfl⟩ := H
      go_enter Try.func133, Try.ntmps133
      go_wp2_with (first | ((with_reducible refine gate_callee (f := 132) rfl ?_); refine goesL_ (some 9) rfl rfl Try.func132 (by kernel_rfl) rfl #[.pointer (some ⟨g, 0, none⟩), .int .i64 (l1.length : Int)] rfl (by (try simp only [List.map_toArray, List.map_cons, List.map_nil]); first | done | rfl | (simp only [List.length_drop, List.length_take]; rfl)) ?_; (with_reducible refine (spec_l01Below.calls g s0_0 s0_1 s0_2 (l1.length : Int) t124 t125 t126 w0 _ ?side1 ?side2 A3.out).mono ?_); (case side1 => repeat (first | (with_reducible first | exact HI0.out | apply IsS190.alloc | apply IsS190.drewN | apply IsS190.drew | apply IsS190.set_1 | apply IsS190.set_2) | exact HI0.out)); (case side2 => repeat (first | (with_reducible first | exact HB.out | apply below_alloc | apply pw_below_drewN | apply below_drew1 | refine below_set ?_ (IsS190.ge HI0.out)) | exact HB.out)); rintro e w6 ⟨rfl, hi, hb, hk⟩; refine ⟨_, rfl, ?_⟩; have n0_ := Aside0.mk (KeepBut.trans (by repeat (first | (with_reducible first | exact HK.out | apply KeepBut.set_ | apply keep_drewN | apply keep_drew | apply keep_alloc) | exact HK.out)) hk (.inl rfl)); have n1_ := Aside0.mk (hb); have n2_ := Aside0.mk (hi); clear HK; clear HB; clear HI0; have HK := n0_; have HB := n1_; have HI0 := n2_; clear n0_ n1_ n2_; (try clear hb); (try clear hb2); (try clear hk); (try clear hi); have p127 : 0 ≤ (t124 : Int) := oa; have q127 : t124 < (l1.length : Int) := oa; obtain ⟨ad127, e127, hx127_0⟩ := Kd.at_string HR1.out t124 p127 q127; cases e127; replace hx127_0 := keep_cell HK.out hx127_0 (by first | (rw [add_block]; exact hf1 _ rfl (by omega)) | exact hf1 _ rfl (by omega) | exact hf1 ad127 rfl (by omega)); replace p127 := eq_true p127; replace q127 := eq_true q127))
      go_ret
      exact ⟨by first | rfl | (simp [errW_none, errW_some] <;> rfl) | (simp [*, errW_none, errW_some] <;> rfl), by repeat (first | (with_reducible first | exact HI0.out | apply IsS190.alloc | apply IsS190.drewN | apply IsS190.drew | apply IsS190.set_1 | apply IsS190.set_2) | exact HI0.out), by repeat (first | (with_reducible first | exact HB.out | apply below_alloc | apply pw_below_drewN | apply below_drew1 | refine below_set ?_ (IsS190.ge HI0.out)) | exact HB.out), by repeat (first | (with_reducible first | exact HK.out | apply KeepBut.set_ | apply keep_drewN | apply keep_drew | apply keep_alloc) | exact HK.out)⟩
    · rw [if_neg c5] at H
      exact absurd H (by simp)
  · rw [if_neg c4] at H
    exact absurd H (by simp)

end Go.Proofs.Ytlkbdoejeomlmaa.PFnExprTexts
