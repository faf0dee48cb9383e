/- What a struct or a slice of structs that comes in reads as: from the claim's reading (DataW.trod) to the print's rows (Kd). General lemmas, over any program. No condition. -/
import Derived.Test.YthnokfmpogekoaaWWords
import Derived.ProofKit
import Derived.OpenShut
import Derived.Below
import Derived.Deep.Slices
namespace Go.Proofs.YthnokfmpogekoaaRd
open Go.RowKit Go.Deep Go.Proofs.YthnokfmpogekoaaW.PrintWords

/-- Type t is read as kind d; what is read meets wf. -/
structure Rd {α : Type} (P : Program) (t : TypeId) (d : Kd α) (wf : α → Prop) : Prop where
  sz : d.sz = P.cellsOf t
  rd : ∀ {H : Type} (enc : TypeId × Value → H) (w : World) (fuel : Nat) (cs : List Value) (x : DataW H × List MemPlace),
    DataW.trod enc P w 0 (fun _ => true) true fuel t cs = some x → ∃ y : α, d.K w y cs ∧ wf y

theorem Rd.imp {α : Type} {P : Program} {t : TypeId} {d : Kd α} {wf wf' : α → Prop} (h : Rd P t d wf) (hw : ∀ x, wf x → wf' x) : Rd P t d wf' :=
  ⟨h.sz, fun enc w fuel cs x hx => by obtain ⟨y, hy, hz⟩ := h.rd enc w fuel cs x hx; exact ⟨y, hy, hw y hz⟩⟩

theorem Rd.int {P : Program} {t : TypeId} {k : IntKind} (hu : P.underlying t = some (.int k)) (hs : P.cellsOf t = 1) : Rd P t (Kd.int k) (fun x => (Lit.int k x).wf = true) := by
  refine ⟨hs.symm, fun enc w fuel cs x hx => ?_⟩
  obtain ⟨n, rfl, _, hw⟩ := DataW.trod_int hu hx
  exact ⟨n, rfl, hw⟩

theorem Rd.bool {P : Program} {t : TypeId} (hu : P.underlying t = some .bool) (hs : P.cellsOf t = 1) : Rd P t Kd.bool (fun _ => True) := by
  refine ⟨hs.symm, fun enc w fuel cs x hx => ?_⟩
  obtain ⟨b, rfl, _⟩ := DataW.trod_bool hu hx
  exact ⟨b, rfl, trivial⟩

theorem Rd.string {P : Program} {t : TypeId} (hu : P.underlying t = some .string) (hs : P.cellsOf t = 1) : Rd P t Kd.string (fun x => x.size ≤ 9223372036854775807) := by
  refine ⟨hs.symm, fun enc w fuel cs x hx => ?_⟩
  obtain ⟨s, rfl, _, h⟩ := DataW.trod_string hu hx
  exact ⟨s, rfl, h⟩

theorem choose_list {α : Type} (n : Nat) (p : Nat → α → Prop) (h : ∀ i, i < n → ∃ y, p i y) : ∃ ys : List α, ys.length = n ∧ ∀ i y, ys[i]? = some y → p i y := by
  induction n with
  | zero => exact ⟨[], rfl, fun i y hy => by simp at hy⟩
  | succ n ih =>
    obtain ⟨ys, hl, hy⟩ := ih (fun i hi => h i (by omega))
    obtain ⟨z, hz⟩ := h n (by omega)
    refine ⟨ys ++ [z], by simp [hl], fun i y hi => ?_⟩
    rcases Nat.lt_or_ge i ys.length with h1 | h1
    · rw [List.getElem?_append_left h1] at hi
      exact hy i y hi
    · have hlt := (List.getElem?_eq_some_iff.1 hi).1
      simp at hlt
      have hi' : i = n := by omega
      subst hi'
      subst hl
      simp at hi
      exact hi ▸ hz

theorem Rd.slice {α : Type} {P : Program} {t e : TypeId} {d : Kd α} {wf : α → Prop} (hu : P.underlying t = some (.slice e)) (hs : P.cellsOf t = 1) (h : Rd P e d wf) :
    Rd P t (Kd.slice e d) (fun xs => xs.length ≤ 9223372036854775807 ∧ ∀ x ∈ xs, wf x) := by
  refine ⟨hs.symm, fun enc w fuel cs x hx => ?_⟩
  rcases open_slice hu hx with ⟨rfl, _⟩ | ⟨a, len, cap, m, n, D, Pl, rfl, _, hl, hm, hmm, _, hel⟩
  · exact ⟨[], ⟨none, 0, rfl, Nat.le_refl _, rfl, by simp, fun h0 => absurd h0 (by simp)⟩, by simp, by simp⟩
  · have hmc : m = cap := by rw [hmm]; rfl
    have hm' : cap ≤ 9223372036854775807 := hm
    obtain ⟨ys, hyl, hy⟩ := choose_list len (fun i (y : α) => ∃ cs', w.cells? 0 (a.add (i * P.cellsOf e)) (P.cellsOf e) = some cs' ∧ d.K w y cs' ∧ wf y) (fun i hi => by
      obtain ⟨cs', hc, ht⟩ := hel i (by omega)
      obtain ⟨y, hk, hw⟩ := h.rd enc w n cs' _ ht
      exact ⟨y, cs', hc, hk, hw⟩)
    refine ⟨ys, ⟨some a, cap, by rw [hyl], by omega, rfl, by omega, fun _ => ⟨a, rfl, fun j p hj => ?_⟩⟩, by omega, fun y hmem => ?_⟩
    · obtain ⟨cs', hc, hk, _⟩ := hy j p hj
      obtain ⟨_, hcl, hcell⟩ := World.cells?_some hc
      refine ⟨cs', d.K_len hk, hk, fun i u hi => ?_⟩
      have hlt := (List.getElem?_eq_some_iff.1 hi).1
      rw [h.sz, ← Addr.add_add, hcell i (by omega)]
      exact hi
    · obtain ⟨i, hi⟩ := List.mem_iff_getElem?.1 hmem
      obtain ⟨_, _, _, hw⟩ := hy i y hi
      exact hw

/-- The fields fs, from cell o on, are read as kind d. -/
structure RdF {α : Type} (P : Program) (fs : List Field) (o : Nat) (d : Kd α) (wf : α → Prop) : Prop where
  rd : ∀ {H : Type} (enc : TypeId × Value → H) (w : World) (fuel : Nat) (cs : List Value), cs.length = o + d.sz →
    (∀ f ∈ fs, ∃ x, DataW.trod enc P w 0 (fun _ => true) true fuel f.type ((cs.drop f.offset).take (P.cellsOf f.type)) = some x) → ∃ y : α, d.K w y (cs.drop o) ∧ wf y

theorem RdF.one {α : Type} {P : Program} {f : Field} {o : Nat} {d : Kd α} {wf : α → Prop} (ho : f.offset = o) (h : Rd P f.type d wf) : RdF P [f] o d wf := by
  refine ⟨fun enc w fuel cs hl hf => ?_⟩
  obtain ⟨x, hx⟩ := hf f (by simp)
  obtain ⟨y, hk, hw⟩ := h.rd enc w fuel _ x hx
  rw [ho, ← h.sz, List.take_of_length_le (by simp; omega)] at hk
  exact ⟨y, hk, hw⟩

theorem RdF.cons {α β : Type} {P : Program} {f : Field} {fs : List Field} {o : Nat} {d : Kd α} {d' : Kd β} {wf : α → Prop} {wf' : β → Prop} (ho : f.offset = o) (h : Rd P f.type d wf) (h' : RdF P fs (o + d.sz) d' wf') :
    RdF P (f :: fs) o (Kd.pair d d') (fun x => wf x.1 ∧ wf' x.2) := by
  refine ⟨fun enc w fuel cs hl hf => ?_⟩
  have hl' : cs.length = o + (d.sz + d'.sz) := hl
  obtain ⟨x, hx⟩ := hf f (by simp)
  obtain ⟨y, hk, hw⟩ := h.rd enc w fuel _ x hx
  obtain ⟨y', hk', hw'⟩ := h'.rd enc w fuel cs (by omega) (fun g hg => hf g (by simp [hg]))
  rw [ho, ← h.sz] at hk
  refine ⟨(y, y'), ⟨_, _, ?_, hk, hk'⟩, hw, hw'⟩
  rw [← List.drop_drop, List.take_append_drop]

theorem Rd.struct {α β : Type} {P : Program} {t : TypeId} {fs : Array Field} {d : Kd α} {wf : α → Prop} {f : β → α} (g : α → β) (hg : ∀ x, f (g x) = x) (hu : P.underlying t = some (.struct fs)) (hs : d.sz = P.cellsOf t) (h : RdF P fs.toList 0 d wf) :
    Rd P t (Kd.iso d f) (fun x => wf (f x)) := by
  refine ⟨hs, fun enc w fuel cs x hx => ?_⟩
  obtain ⟨xs, n, _, rfl, hl, hlen, hf⟩ := DataW.trod_struct hu hx
  obtain ⟨y, hk, hw⟩ := h.rd enc w n cs (by omega) (fun fd hfd => by
    obtain ⟨i, hi⟩ := List.mem_iff_getElem?.1 hfd
    have h1 := hf i fd (by simpa using hi)
    have hlt := (List.getElem?_eq_some_iff.1 hi).1
    have : i < xs.length := by simp at hlt; omega
    exact ⟨xs[i], by rw [h1]; exact List.getElem?_eq_getElem this⟩)
  refine ⟨g y, ?_, ?_⟩
  · have : d.K w (f (g y)) cs := by rw [hg]; simpa using hk
    exact this
  · show wf (f (g y))
    rw [hg]
    exact hw
theorem Rd.fields {α : Type} {P : Program} {t : TypeId} {fs : Array Field} {d : Kd α} {wf : α → Prop} (hu : P.underlying t = some (.struct fs)) (hs : d.sz = P.cellsOf t) (h : RdF P fs.toList 0 d wf) : Rd P t d wf := by
  refine ⟨hs, fun enc w fuel cs x hx => ?_⟩
  obtain ⟨xs, n, _, rfl, hl, hlen, hf⟩ := DataW.trod_struct hu hx
  obtain ⟨y, hk, hw⟩ := h.rd enc w n cs (by omega) (fun fd hfd => by
    obtain ⟨i, hi⟩ := List.mem_iff_getElem?.1 hfd
    have h1 := hf i fd (by simpa using hi)
    have hlt := (List.getElem?_eq_some_iff.1 hi).1
    have : i < xs.length := by simp at hlt; omega
    exact ⟨xs[i], by rw [h1]; exact List.getElem?_eq_getElem this⟩)
  exact ⟨y, by simpa using hk, hw⟩
end Go.Proofs.YthnokfmpogekoaaRd
