/- FnRuleNames: for every code the law's call returns true (each rule of a drawn grammar is found by its name; no other one is). No condition. -/
import Derived.Test.YthdoibaeamiepaaMPairFnRuleNames
namespace Go.Proofs.Ythdoibaeamiepaa.Pure
open Go.RowKit Go.Proofs.Ythdoibaeamiepaa.PFnRuleNames Go.Proofs.Ythdoibaeamiepaa.MDrawFnRuleNames Go.Proofs.Ythdoibaeamiepaa.MPairFnRuleNames Go.Proofs.YthdoibaeamiepaaPl Go.Proofs.YthdoibaeamiepaaLp Go.Proofs.YthdoibaeamiepaaW.PrintWords Go.Proofs.YthdoibaeamiepaaW.PrintLast
set_option linter.unusedVariables false
set_option linter.unusedSimpArgs false
/-- Each rule is found by its name, each name is right, "none" is no name. -/
def good (g : List S33) : Bool := decide (0 < g.length) && decide (g.length ≤ 100) && decide (ruleIx ⟨#[110, 111, 110, 101]⟩ g = g.length) && (List.range g.length).all fun i => decide (ruleIx (g.getD i z33).f0 g = i) && (impl_RuleName.f 30 (g.getD i z33).f0 == some true)
set_option maxRecDepth 100000 in
theorem good_all : onAll good = true := by decide +kernel
set_option maxRecDepth 100000 in
theorem any_all : onAll (copied okAny) = true := by decide +kernel
def names : List ByteArray := [(⟨#[]⟩ : ByteArray), (⟨#[83]⟩ : ByteArray), (⟨#[97, 49]⟩ : ByteArray), (⟨#[49, 97]⟩ : ByteArray), (⟨#[115, 105, 120, 115, 105, 120]⟩ : ByteArray), (⟨#[115, 101, 118, 101, 110, 55, 55]⟩ : ByteArray), (⟨#[97, 45, 98]⟩ : ByteArray)]
set_option maxRecDepth 100000 in
theorem names_all : ∀ s ∈ names, (match impl_RuleName.f 30 s, spec_RuleName.f 30 s with | some a, some b => a == b | _, _ => false) = true := by decide +kernel
theorem ruleAt_spec (g : List S33) (nm : ByteArray) (hg : g.length ≤ 100) : Ev (fun k => spec_RuleAt.f k g nm) (if ruleIx nm g < g.length then (ruleIx nm g : Int) else -1) := by
  unfold spec_RuleAt.f
  have main : ∀ (d i : Nat), i + d = g.length → i ≤ ruleIx nm g → Ev (fun k => spec_RuleAt.l0 k nm (i : Int) g) (if ruleIx nm g < g.length then (ruleIx nm g : Int) else -1) := by
    intro d
    induction d with
    | zero =>
      intro i hd hi
      rw [if_neg (by omega)]
      exact Ev.done (fun k => by simp only [spec_RuleAt.l0]; rw [if_neg (by omega)])
    | succ d ih =>
      intro i hd hi
      have hlt : i < g.length := by omega
      by_cases h : (rd_T33 g (i : Int)).f0.toList = nm.toList
      · have hx := ruleIx_hit hlt hi (beq_iff_eq.2 h)
        rw [if_pos (by omega), hx]
        exact Ev.done (fun k => by simp only [spec_RuleAt.l0]; rw [if_pos (by omega), if_pos (by omega), if_pos h])
      · have hx := ruleIx_miss hlt hi (beq_eq_false_iff_ne.2 h)
        have hw : wrap64 ((i : Int) + 1) = ((i + 1 : Nat) : Int) := by rw [w64 (by omega) (by omega)]; omega
        exact Ev.step (fun k => by simp only [spec_RuleAt.l0]; rw [if_pos (by omega), if_pos (by omega), if_neg h, hw]) (ih (i + 1) (by omega) hx)
  exact main g.length 0 (by omega) (Nat.zero_le _)
theorem drawAt_ok (l : List Int) (hl : l.length ≤ 1048576) : ∃ g nm, Ev (fun k => spec_DrawRuleAt.f k l) (g, nm) ∧ g.length ≤ 100 := by
  obtain ⟨h', e, hc⟩ := new_ok l hl
  obtain ⟨s, c1, h1, e1, _, hc1⟩ := pick_ok h' [(⟨#[83]⟩ : ByteArray), (⟨#[65]⟩ : ByteArray), (⟨#[66]⟩ : ByteArray), (⟨#[120, 48]⟩ : ByteArray), (⟨#[110, 111, 110, 101]⟩ : ByteArray)] (by decide) (by decide) hc
  obtain ⟨kk, x, q, g, c2, h2, e2, _, _, _, _, _, hq, _, hgl⟩ := any_ok (Q := okAny) any_all (fun q h => h) h1 hc1
  refine ⟨g, s, ?_, ?_⟩
  · unfold spec_DrawRuleAt.f
    refine Ev.bind e ?_
    simp only [e1, Option.bind_some]
    exact Ev.bind e2 (Ev.now _)
  · unfold okAny at hq
    simp only [Bool.and_eq_true, decide_eq_true_eq] at hq
    omega
theorem drawName_ok (l : List Int) (hl : l.length ≤ 1048576) : ∃ s, Ev (fun k => spec_DrawRuleName.f k l) s ∧ s ∈ names := by
  obtain ⟨h', e, hc⟩ := new_ok l hl
  obtain ⟨s, c1, h1, e1, hs, hc1⟩ := pick_ok h' names (by decide) (by decide) hc
  refine ⟨s, ?_, hs⟩
  unfold spec_DrawRuleName.f
  refine Ev.bind e ?_
  have e1' := e1
  unfold names at e1'
  simp only [e1', Option.bind_some]
  exact Ev.now _
theorem FnRuleNames : laws_FnRuleNames.Pure := by
  intro l _ _ _
  refine Ev.rounds ?_
  unfold laws_FnRuleNames.f
  simp only [big_f, Option.bind_some]
  by_cases hbig : (l.length : Int) > 1048576
  · simp only [decide_eq_true hbig, if_true]; exact Ev.now _
  simp only [decide_eq_false hbig, Bool.false_eq_true, if_false]
  have hl : l.length ≤ 1048576 := by omega
  obtain ⟨g, t, eg, hg⟩ := drawPair_ok good_all l hl
  obtain ⟨q, nm, eq, hq⟩ := drawAt_ok l hl
  obtain ⟨s, es, hs⟩ := drawName_ok l hl
  unfold good at hg
  simp only [Bool.and_eq_true, decide_eq_true_eq, List.all_eq_true, List.mem_range, beq_iff_eq] at hg
  obtain ⟨⟨⟨h0, h1⟩, h2⟩, h3⟩ := hg
  have hN := names_all s hs
  refine Ev.bind eg ?_
  refine scan (fun k i => laws_FnRuleNames.l0 k l i g) g.length (fun _ => true) (by omega) ?_ (fun i hi e => ?_) 0 (by omega)
  · refine Ev.next (Ev.bind eq (Ev.bind es ?_)) (fun k => by simp only [laws_FnRuleNames.l0]; rw [if_neg (by omega)])
    have ea : impl_RuleAt.f g ⟨#[110, 111, 110, 101]⟩ = some (-1) := by unfold impl_RuleAt.f; rw [if_pos (by omega), if_neg (by omega)]
    have eb : impl_RuleAt.f q nm = some (if ruleIx nm q < q.length then (ruleIx nm q : Int) else -1) := by unfold impl_RuleAt.f; rw [if_pos (by omega)]
    cases ha : impl_RuleName.f 30 s with
    | none => rw [ha] at hN; exact absurd hN (by simp)
    | some a =>
      cases hb : spec_RuleName.f 30 s with
      | none => rw [ha, hb] at hN; exact absurd hN (by simp)
      | some b =>
        rw [ha, hb] at hN
        have hab : a = b := by simpa using hN
        subst hab
        simp only [ea, eb, Option.bind_some, if_true]
        refine Ev.bind (ruleAt_spec q nm hq) ?_
        simp only [if_true]
        refine Ev.bind (Ev.of (fun k => impl_RuleName.mono _ k) ha) (Ev.bind (Ev.of (fun k => spec_RuleName.mono _ k) hb) ?_)
        simp only [beq_self_eq_true, if_true]
        exact Ev.just (fun k => by rw [decide_eq_true (by omega)])
  · obtain ⟨hx, hr⟩ := h3 i hi
    have ea : impl_RuleAt.f g (rd_T33 g (i : Int)).f0 = some (i : Int) := by
      unfold impl_RuleAt.f rd_T33
      rw [if_pos (by omega), Int.toNat_natCast, hx, if_pos hi]
    refine Ev.next (Ev.same (Ev.bind (Ev.of (fun k => impl_RuleName.mono _ k) hr) (f := fun k t => if t = true then laws_FnRuleNames.l0 k l (wrap64 ((i : Int) + 1)) g else some false) (by simp only [if_true]; exact e)) (fun k => ?_)) (fun k => by simp only [laws_FnRuleNames.l0]; rw [if_pos (by omega), if_pos (by omega)])
    rw [ea]
    simp only [Option.bind_some, if_true]
    rfl
end Go.Proofs.Ythdoibaeamiepaa.Pure
