/- What is drawn of grammars: each of thirteen texts is read and made plain; a grammar that is drawn and turned in one place. Plain lemmas; no condition. -/
import Derived.Test.YthdoibaeamiepaaMDrawFnRuleNames
namespace Go.Proofs.Ythdoibaeamiepaa.MPairFnRuleNames
open Go.RowKit Go.Proofs.Ythdoibaeamiepaa.PFnRuleNames Go.Proofs.Ythdoibaeamiepaa.MDrawFnRuleNames Go.Proofs.YthdoibaeamiepaaPl Go.Proofs.YthdoibaeamiepaaLp Go.Proofs.YthdoibaeamiepaaW.PrintWords Go.Proofs.YthdoibaeamiepaaW.PrintLast
set_option linter.unusedVariables false
set_option linter.unusedSimpArgs false
def onText (P : List S33 → Bool) (s : ByteArray) : Bool := match spec_ReadSurface.f 400 s with
  | some x => (match spec_Flatten.f 400 x.1 x.2.1 with
    | some g => P g.1
    | none => false)
  | none => false
def onAll (P : List S33 → Bool) : Bool := (List.range 13).all fun i => match spec_l11Split.f 300 ((i : Nat) : Int) with
  | some r => onText P r.1
  | none => false
theorem onText_ok {P : List S33 → Bool} {s : ByteArray} (h : onText P s = true) : ∃ x g, Ev (fun k => spec_ReadSurface.f k s) x ∧ Ev (fun k => spec_Flatten.f k x.1 x.2.1) g ∧ P g.1 = true := by
  unfold onText at h
  cases hx : spec_ReadSurface.f 400 s with
  | none => simp only [hx] at h; exact absurd h (by simp)
  | some x =>
    rw [hx] at h
    cases hg : spec_Flatten.f 400 x.1 x.2.1 with
    | none => simp only [hg] at h; exact absurd h (by simp)
    | some g =>
      simp only [hg] at h
      exact ⟨x, g, Ev.of (fun k => spec_ReadSurface.mono _ k) hx, Ev.of (fun k => spec_Flatten.mono _ _ k) hg, h⟩
theorem splitP {P : List S33 → Bool} (hP : onAll P = true) (i : Int) (h0 : 0 ≤ i) (h1 : i < 13) : ∃ (r : ByteArray × ByteArray) (x : _) (g : _), Ev (fun k => spec_l11Split.f k i) r ∧ r.2.size ≤ 200 ∧ 0 < r.2.size ∧ Ev (fun k => spec_ReadSurface.f k r.1) x ∧ Ev (fun k => spec_Flatten.f k x.1 x.2.1) g ∧ P g.1 = true := by
  obtain ⟨n, rfl⟩ : ∃ n : Nat, i = (n : Int) := ⟨i.toNat, by omega⟩
  obtain ⟨r, hr, _, h2, h3⟩ := split_ok (n : Int) h0 h1
  have hn := (List.all_eq_true.1 hP) n (List.mem_range.2 (by omega))
  cases hs : spec_l11Split.f 300 ((n : Nat) : Int) with
  | none => simp only [hs] at hn; exact absurd hn (by decide)
  | some q =>
    simp only [hs] at hn
    have hq : Ev (fun k => spec_l11Split.f k (n : Int)) q := Ev.of (fun k => spec_l11Split.mono _ k) hs
    obtain ⟨K1, e1⟩ := hr
    obtain ⟨K2, e2⟩ := hq
    have e : r = q := Option.some.inj ((e1 (K1 + K2) (by omega)).symm.trans (e2 (K1 + K2) (by omega)))
    subst e
    obtain ⟨x, g, hx, hg, hp⟩ := onText_ok hn
    exact ⟨r, x, g, ⟨K1, e1⟩, h2, h3, hx, hg, hp⟩
theorem letters_size (s : ByteArray) (r : Int) (h0 : 0 ≤ r) (h1 : r < (s.size : Int)) : (s.extract r.toNat (wrap64 (r + 1)).toNat).size ≤ 200 ∨ 1000 < s.size := by
  by_cases h : s.size ≤ 200
  · refine .inl ?_
    rw [ByteArray.size_extract]
    omega
  · by_cases h2 : 1000 < s.size
    · exact .inr h2
    · refine .inl ?_
      rw [ByteArray.size_extract, w64 (by omega) (by omega)]
      omega
/-- A text of a few letters. -/
theorem text7_ok {b : List Int} : ∀ (d : Nat) (i : Int) (t : ByteArray) (c h : Int), 0 ≤ i → 7 - i ≤ d → t.size ≤ 10 * i.toNat → i ≤ 7 → Cur b c → ∃ u c' h', Ev (fun k => spec_l07Text.l0 k t i b c h) (u, c', h') ∧ Cur b c' := by
  intro d
  induction d with
  | zero =>
    intro i t c h h0 hd ht hi hc
    obtain ⟨r, c1, h1, e1, r0, r1, hc1⟩ := below_ok h 7 (by omega) hc
    by_cases h8 : (t.size : Int) > 8
    · exact ⟨t.extract 0 8, c1, h1, Ev.done (fun k => by simp only [spec_l07Text.l0]; rw [e1]; simp only [Option.bind_some]; rw [if_neg (by omega), if_pos h8, if_pos (by decide), if_pos (by omega)]), hc1⟩
    · exact ⟨t, c1, h1, Ev.done (fun k => by simp only [spec_l07Text.l0]; rw [e1]; simp only [Option.bind_some]; rw [if_neg (by omega), if_neg h8]), hc1⟩
  | succ d ih =>
    intro i t c h h0 hd ht hi hc
    obtain ⟨r, c1, h1, e1, r0, r1, hc1⟩ := below_ok h 7 (by omega) hc
    by_cases hir : i < r
    · obtain ⟨u, c2, h2, e2, hu, hc2⟩ := pick_ok h1 [(⟨#[97]⟩ : ByteArray), (⟨#[98]⟩ : ByteArray), (⟨#[97]⟩ : ByteArray), (⟨#[97, 98]⟩ : ByteArray), (⟨#[49]⟩ : ByteArray), (⟨#[50]⟩ : ByteArray), (⟨#[43]⟩ : ByteArray), (⟨#[40]⟩ : ByteArray), (⟨#[41]⟩ : ByteArray), (⟨#[51]⟩ : ByteArray), (⟨#[58]⟩ : ByteArray)] (by decide) (by decide) hc1
      have hus : u.size ≤ 10 := by
        simp only [List.mem_cons, List.not_mem_nil, or_false] at hu
        rcases hu with rfl | rfl | rfl | rfl | rfl | rfl | rfl | rfl | rfl | rfl | rfl <;> decide
      have hw : wrap64 (i + 1) = i + 1 := w64 (by omega) (by omega)
      obtain ⟨z, c', h', e3, hc3⟩ := ih (i + 1) (t ++ u) c2 h2 (by omega) (by omega) (by rw [ByteArray.size_append]; omega) (by omega) hc2
      exact ⟨z, c', h', Ev.step (fun k => by simp only [spec_l07Text.l0]; rw [e1]; simp only [Option.bind_some]; rw [if_pos hir, e2]; simp only [Option.bind_some]; rw [if_pos (by omega), hw]) e3, hc3⟩
    · by_cases h8 : (t.size : Int) > 8
      · exact ⟨t.extract 0 8, c1, h1, Ev.done (fun k => by simp only [spec_l07Text.l0]; rw [e1]; simp only [Option.bind_some]; rw [if_neg hir, if_pos h8, if_pos (by decide), if_pos (by omega)]), hc1⟩
      · exact ⟨t, c1, h1, Ev.done (fun k => by simp only [spec_l07Text.l0]; rw [e1]; simp only [Option.bind_some]; rw [if_neg hir, if_neg h8]), hc1⟩
theorem text_ok {b : List Int} {c : Int} (h : Int) (hc : Cur b c) : ∃ u c' h', Ev (fun k => spec_l07Text.f k b c h) (u, c', h') ∧ Cur b c' := text7_ok 7 0 ⟨#[]⟩ c h (by omega) (by omega) (by decide) (by omega) hc
section
variable {P : List S33 → Bool} {b : List Int}
theorem pairEnd {x4 x5 x6 : ByteArray} {i : Int} {c h : Int} {r c1 h1 : Int} (e1 : spec_l01Below.f b c h 7 = some (r, c1, h1)) (hir : ¬ i < r) (hc1 : Cur b c1) {x : _} {g : _} (hx : Ev (fun k => spec_ReadSurface.f k x4) x) (hg : Ev (fun k => spec_Flatten.f k x.1 x.2.1) g) :
    ∃ t c' h', Ev (fun k => spec_l11Pair.l0 k x4 x5 x6 i b c h) (g.1, t, c', h') ∧ Cur b c' := by
  obtain ⟨q, c2, h2, e2, hc2⟩ := once_ok h1 8 (by omega) hc1
  cases q with
  | false =>
    refine ⟨x6, c2, h2, Ev.next (Ev.bind hx (Ev.bind hg (Ev.just (r := (g.1, x6, c2, h2)) (fun k => ?_)))) (fun k => by simp only [spec_l11Pair.l0]; rw [e1]; simp only [Option.bind_some]; rw [if_neg hir]), hc2⟩
    simp only [e2, Option.bind_some]
    rfl
  | true =>
    obtain ⟨u, c3, h3, e3, hc3⟩ := text_ok h2 hc2
    refine ⟨u, c3, h3, Ev.next (Ev.bind hx (Ev.bind hg (Ev.same (Ev.bind e3 (f := fun _ t => some (g.1, t.1, t.2.1, t.2.2)) (Ev.now (g.1, u, c3, h3))) (fun k => ?_)))) (fun k => by simp only [spec_l11Pair.l0]; rw [e1]; simp only [Option.bind_some]; rw [if_neg hir]), hc3⟩
    simp only [e2, Option.bind_some]
    rfl
theorem pairLoop {x4 x5 : ByteArray} (hs : 0 < x5.size) (hs2 : x5.size ≤ 200) {x : _} {g : _} (hx : Ev (fun k => spec_ReadSurface.f k x4) x) (hg : Ev (fun k => spec_Flatten.f k x.1 x.2.1) g) : ∀ (d : Nat) (i : Int) (x6 : ByteArray) (c h : Int), 0 ≤ i → 7 - i ≤ d → x6.size ≤ 200 * i.toNat → i ≤ 7 → Cur b c →
    ∃ t c' h', Ev (fun k => spec_l11Pair.l0 k x4 x5 x6 i b c h) (g.1, t, c', h') ∧ Cur b c' := by
  intro d
  induction d with
  | zero =>
    intro i x6 c h h0 hd ht hi hc
    obtain ⟨r, c1, h1, e1, r0, r1, hc1⟩ := below_ok h 7 (by omega) hc
    exact pairEnd e1 (by omega) hc1 hx hg
  | succ d ih =>
    intro i x6 c h h0 hd ht hi hc
    obtain ⟨r, c1, h1, e1, r0, r1, hc1⟩ := below_ok h 7 (by omega) hc
    by_cases hir : i < r
    · obtain ⟨s, c2, h2, e2, s0, s1, hc2⟩ := below_ok h1 (x5.size : Int) (by omega) hc1
      have hw : wrap64 (i + 1) = i + 1 := w64 (by omega) (by omega)
      have hws : wrap64 (s + 1) = s + 1 := w64 (by omega) (by omega)
      have hz : (x5.extract s.toNat (s + 1).toNat).size ≤ 200 := by rw [ByteArray.size_extract]; omega
      obtain ⟨t, c', h', e3, hc3⟩ := ih (i + 1) (x6 ++ x5.extract s.toNat (s + 1).toNat) c2 h2 (by omega) (by omega) (by rw [ByteArray.size_append]; omega) (by omega) hc2
      refine ⟨t, c', h', Ev.step (fun k => ?_) e3, hc3⟩
      simp only [spec_l11Pair.l0]
      rw [e1]
      simp only [Option.bind_some]
      rw [if_pos hir, e2]
      simp only [Option.bind_some]
      rw [hws, hw, if_pos s0, if_pos (by omega), if_pos (by omega), if_pos (by omega)]
    · exact pairEnd e1 hir hc1 hx hg
theorem pair_ok (hP : onAll P = true) {c : Int} (h : Int) (hc : Cur b c) : ∃ g t c' h', Ev (fun k => spec_l11Pair.f k b c h) (g, t, c', h') ∧ P g = true ∧ Cur b c' := by
  obtain ⟨r, c1, h1, e1, r0, r1, hc1⟩ := below_ok h 13 (by omega) hc
  obtain ⟨q, x, g, eq, q2, q3, hx, hg, hp⟩ := splitP hP r r0 r1
  obtain ⟨t, c', h', e3, hc3⟩ := pairLoop (b := b) q3 q2 hx hg 7 0 ⟨#[]⟩ c1 h1 (by omega) (by omega) (by decide) (by omega) hc1
  refine ⟨g.1, t, c', h', ?_, hp, hc3⟩
  unfold spec_l11Pair.f
  simp only [e1, Option.bind_some]
  exact Ev.bind eq e3
theorem drawPair_ok (hP : onAll P = true) (l : List Int) (hl : l.length ≤ 1048576) : ∃ g t, Ev (fun k => spec_DrawPair.f k l) (g, t) ∧ P g = true := by
  obtain ⟨h', e, hc⟩ := new_ok l hl
  obtain ⟨g, t, c', h2, e2, hp, _⟩ := pair_ok hP h' hc
  exact ⟨g, t, Ev.bind e (Ev.bind e2 (Ev.now _)), hp⟩
theorem grammar_ok (hP : onAll P = true) {c : Int} (h : Int) (hc : Cur b c) : ∃ g c' h', Ev (fun k => spec_l06Grammar.f k b c h) (g, c', h') ∧ P g = true ∧ Cur b c' := by
  obtain ⟨r, c1, h1, e1, r0, r1, hc1⟩ := below_ok h 13 (by omega) hc
  obtain ⟨q, x, g, eq, q2, q3, hx, hg, hp⟩ := splitP hP r r0 r1
  refine ⟨g.1, c1, h1, ?_, hp, hc1⟩
  unfold spec_l06Grammar.f
  refine Ev.bind (a := (q.1, c1, h1)) ?_ (Ev.bind hx (Ev.bind hg (Ev.now _)))
  unfold spec_l11Text.f
  simp only [e1, Option.bind_some]
  exact Ev.bind eq (Ev.now _)
end
/-- What l06Any asks of a grammar. -/
def okAny (q : List S33) : Bool := decide (0 < q.length) && decide (q.length ≤ 100) && q.all fun r => decide (0 < r.f2.length) && decide (r.f1.length ≤ 100) && r.f2.all fun a => decide (a.f0.length ≤ 100)
def copied (Q : List S33 → Bool) (g : List S33) : Bool := match spec_l06Copy.f 400 g with
  | some q => Q q
  | none => false
theorem anyR_mem {x : Int} {q : List S33} (hx : 0 ≤ x) (hq : 0 < q.length) : anyR x q ∈ q := by
  unfold anyR anyI
  have h1 := Int.tmod_nonneg (q.length : Int) hx
  have h2 := Int.tmod_lt_of_pos x (show (0 : Int) < (q.length : Int) by omega)
  exact getD_mem q z33 (by omega)
theorem anyS_mem {x : Int} {q : List S33} (hx : 0 ≤ x) (ha : 0 < (anyR x q).f2.length) : rd_T63 (anyR x q).f2 (anyJ x q) ∈ (anyR x q).f2 := by
  unfold anyJ
  have h1 := Int.tmod_nonneg ((anyR x q).f2.length : Int) hx
  have h2 := Int.tmod_lt_of_pos x (show (0 : Int) < ((anyR x q).f2.length : Int) by omega)
  exact getD_mem (anyR x q).f2 z63 (by omega)
theorem anyGrammar_ok {q : List S33} (hq : okAny q = true) (k x : Int) (hx : 0 ≤ x) : ∃ g, anyGrammar k x q = some g ∧ g.length ≤ q.length := by
  unfold okAny at hq
  simp only [Bool.and_eq_true, decide_eq_true_eq, List.all_eq_true] at hq
  obtain ⟨⟨h0, h1⟩, h2⟩ := hq
  have hr := h2 _ (anyR_mem hx h0)
  have hs := hr.2 _ (anyS_mem hx hr.1.1)
  have hc : 0 ≤ x ∧ 0 < q.length ∧ 0 < (anyR x q).f2.length ∧ (anyR x q).f1.length < 2000000000000 ∧ (anyS x q).length < 2000000000000 := ⟨hx, h0, hr.1.1, by have := hr.1.2; omega, by show (rd_T63 (anyR x q).f2 (anyJ x q)).f0.length < _; omega⟩
  unfold anyGrammar
  rw [if_pos hc]
  repeat' split
  all_goals exact ⟨_, rfl, by simp [putSyms, putRule]⟩
theorem any_ok {Q : List S33 → Bool} (hP : onAll (copied Q) = true) (hQ : ∀ q, Q q = true → okAny q = true) {b : List Int} {c : Int} (h : Int) (hc : Cur b c) : ∃ kk x q g c' h', Ev (fun k => spec_l06Any.f k b c h) (g, c', h') ∧ Cur b c' ∧ 0 ≤ kk ∧ kk < 14 ∧ 0 ≤ x ∧ x < 90 ∧ Q q = true ∧ anyGrammar kk x q = some g ∧ g.length ≤ q.length := by
  obtain ⟨kk, c1, h1, e1, k0, k1, hc1⟩ := below_ok h 14 (by omega) hc
  obtain ⟨x, c2, h2, e2, x0, x1, hc2⟩ := below_ok h1 90 (by omega) hc1
  obtain ⟨g, c3, h3, e3, hp, hc3⟩ := grammar_ok hP h2 hc2
  unfold copied at hp
  cases hq : spec_l06Copy.f 400 g with
  | none => simp only [hq] at hp; exact absurd hp (by decide)
  | some q =>
    simp only [hq] at hp
    obtain ⟨z, hz, hl⟩ := anyGrammar_ok (hQ q hp) kk x x0
    refine ⟨kk, x, q, z, c3, h3, ?_, hc3, k0, k1, x0, x1, hp, hz, hl⟩
    unfold spec_l06Any.f
    simp only [e1, e2, Option.bind_some]
    refine Ev.bind e3 (Ev.bind (Ev.of (fun k => spec_l06Copy.mono _ k) hq) ?_)
    simp only [hz, Option.bind_some]
    exact Ev.now _
end Go.Proofs.Ythdoibaeamiepaa.MPairFnRuleNames
