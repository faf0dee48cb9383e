/- What the draws of the law come to: a value of its kind, whatever the code is. Plain lemmas; no condition. -/
import Derived.Test.YthdoibaeamiepaaLp
import Derived.Test.YthdoibaeamiepaaPFnRuleNamesm11
namespace Go.Proofs.Ythdoibaeamiepaa.MDrawFnRuleNames
open Go.RowKit Go.Proofs.Ythdoibaeamiepaa.PFnRuleNames Go.Proofs.YthdoibaeamiepaaPl Go.Proofs.YthdoibaeamiepaaLp Go.Proofs.YthdoibaeamiepaaW.PrintWords Go.Proofs.YthdoibaeamiepaaW.PrintLast
set_option linter.unusedVariables false
set_option linter.unusedSimpArgs false
theorem and255 (n : Int) : Go.bits .and .i64 n 255 = n % 256 := by
  have h255 : (BitVec.ofInt 64 255).toNat = 2 ^ 8 - 1 := by decide
  have key : (BitVec.ofInt 64 n &&& BitVec.ofInt 64 255).toNat = (n % ((2 ^ 64 : Nat) : Int)).toNat % 2 ^ 8 := by
    rw [BitVec.toNat_and, BitVec.toNat_ofInt, h255, Nat.and_two_pow_sub_one_eq_mod]
  show IntKind.i64.wrap ((BitVec.ofInt 64 n &&& BitVec.ofInt 64 255).toNat : Nat) = n % 256
  rw [key, IntKind.wrap_i64]
  omega


/-- A cursor over a code that is not too long. -/
structure Cur (b : List Int) (i : Int) : Prop where
  lo : 0 ≤ i
  hi : i ≤ b.length
  sm : b.length ≤ 1048576

theorem byte_ok {b : List Int} {i : Int} (h : Int) (c : Cur b i) : ∃ r i' h', spec_l01Byte.f b i h = some (r, i', h') ∧ 0 ≤ r ∧ r ≤ 255 ∧ Cur b i' := by
  unfold spec_l01Byte.f
  have := c.lo; have := c.hi; have := c.sm
  by_cases h1 : i < (b.length : Int)
  · rw [if_pos h1, if_pos c.lo]
    simp only [and255]
    refine ⟨_, _, _, rfl, by omega, by omega, ?_, ?_, c.sm⟩
    · rw [w64 (by omega) (by omega)]; omega
    · rw [w64 (by omega) (by omega)]; omega
  · rw [if_neg h1]
    simp only [and255]
    exact ⟨_, _, _, rfl, by omega, by omega, c⟩

theorem below_ok {b : List Int} {i : Int} (h : Int) (n : Int) (hn : 0 < n) (c : Cur b i) : ∃ r i' h', spec_l01Below.f b i h n = some (r, i', h') ∧ 0 ≤ r ∧ r < n ∧ Cur b i' := by
  unfold spec_l01Below.f
  rw [if_neg (by omega)]
  by_cases h1 : n ≤ 256
  · rw [if_pos h1]
    obtain ⟨r, i', h', e, r0, r1, c'⟩ := byte_ok h c
    rw [e]
    simp only [Option.bind_some]
    rw [if_neg (by omega)]
    exact ⟨_, _, _, rfl, Int.tmod_nonneg _ r0, Int.tmod_lt_of_pos _ hn, c'⟩
  · rw [if_neg h1]
    obtain ⟨r, i', h', e, r0, r1, c'⟩ := byte_ok h c
    rw [e]
    simp only [Option.bind_some]
    obtain ⟨s, i2, h2, e2, s0, s1, c2⟩ := byte_ok h' c'
    rw [e2]
    simp only [Option.bind_some]
    obtain ⟨t, i3, h3, e3, t0, t1, c3⟩ := byte_ok h2 c2
    rw [e3]
    simp only [Option.bind_some]
    obtain ⟨u, i4, h4, e4, u0, u1, c4⟩ := byte_ok h3 c3
    rw [e4]
    simp only [Option.bind_some]
    rw [if_neg (by omega)]
    have w1 : wrap64 (r * 16777216) = r * 16777216 := w64 (by omega) (by omega)
    have w2 : wrap64 (s * 65536) = s * 65536 := w64 (by omega) (by omega)
    have w3 : wrap64 (t * 256) = t * 256 := w64 (by omega) (by omega)
    rw [w1, w2, w3, w64 (x := r * 16777216 + s * 65536) (by omega) (by omega), w64 (x := r * 16777216 + s * 65536 + t * 256) (by omega) (by omega), w64 (x := r * 16777216 + s * 65536 + t * 256 + u) (by omega) (by omega)]
    exact ⟨_, _, _, rfl, Int.tmod_nonneg _ (by omega), Int.tmod_lt_of_pos _ hn, c4⟩

theorem new_loop (b : List Int) (_hb : b.length ≤ 1048576) (d : Nat) : ∀ (h i : Int), 0 ≤ i → (b.length : Int) - i ≤ d → ∃ h', Ev (fun k => spec_l01New.l0 k b h i) (b, 0, h') := by
  induction d with
  | zero =>
    intro h i h0 hd
    exact ⟨h, Ev.step (f := fun _ => some (b, 0, h)) (fun k => by simp only [spec_l01New.l0]; rw [if_neg (by omega)]) (Ev.now _)⟩
  | succ d ih =>
    intro h i h0 hd
    by_cases h1 : i < (b.length : Int)
    · by_cases h2 : i < 4000
      · obtain ⟨h', e⟩ := ih (Go.bits .and .i64 (wrap64 ((wrap64 ((wrap64 (h * 131)) + (wrap64 (rd b i)))) + 7)) 1073741823) (wrap64 (i + 1)) (by rw [w64 (by omega) (by omega)]; omega) (by rw [w64 (by omega) (by omega)]; omega)
        exact ⟨h', Ev.step (fun k => by simp only [spec_l01New.l0]; rw [if_pos h1, if_pos h2, if_pos h0]) e⟩
      · exact ⟨h, Ev.step (f := fun _ => some (b, 0, h)) (fun k => by simp only [spec_l01New.l0]; rw [if_pos h1, if_neg h2]) (Ev.now _)⟩
    · exact ⟨h, Ev.step (f := fun _ => some (b, 0, h)) (fun k => by simp only [spec_l01New.l0]; rw [if_neg h1]) (Ev.now _)⟩

theorem new_ok (b : List Int) (hb : b.length ≤ 1048576) : ∃ h', Ev (fun k => spec_l01New.f k b) (b, 0, h') ∧ Cur b 0 := by
  obtain ⟨h', e⟩ := new_loop b hb b.length (wrap64 (34601 + (b.length : Int))) 0 (by omega) (by omega)
  exact ⟨h', e, ⟨by omega, by omega, hb⟩⟩

theorem pick_ok {b : List Int} {c : Int} (h : Int) (L : List ByteArray) (hL : 0 < L.length) (hl : L.length ≤ 100) (hc : Cur b c) : ∃ x c' h', spec_l01Pick.f b c h L = some (x, c', h') ∧ x ∈ L ∧ Cur b c' := by
  obtain ⟨r, c1, h1, e1, r0, r1, hc1⟩ := below_ok h (L.length : Int) (by omega) hc
  refine ⟨rdOf ByteArray.empty L r, c1, h1, ?_, ?_, hc1⟩
  · unfold spec_l01Pick.f
    rw [e1, Option.bind_some]
    dsimp only
    rw [if_pos r0, if_pos r1]
  · unfold rdOf
    exact getD_mem L ByteArray.empty (by omega)
theorem once_ok {b : List Int} {c : Int} (h : Int) (n : Int) (hn : 0 < n) (hc : Cur b c) : ∃ q c' h', spec_l01Once.f b c h n = some (q, c', h') ∧ Cur b c' := by
  obtain ⟨r, c1, h1, e1, r0, r1, hc1⟩ := below_ok h n hn hc
  refine ⟨r == 0, c1, h1, ?_, hc1⟩
  unfold spec_l01Once.f
  rw [e1, Option.bind_some]

set_option maxRecDepth 100000 in
theorem split_all : ∀ i : Fin 13, (match spec_l11Split.f 300 ((i.val : Nat) : Int) with | some r => decide (r.1.size ≤ 200) && decide (r.2.size ≤ 200) && decide (0 < r.2.size) | none => false) = true := by decide +kernel
theorem split_ok (i : Int) (h0 : 0 ≤ i) (h1 : i < 13) : ∃ r : ByteArray × ByteArray, Ev (fun k => spec_l11Split.f k i) r ∧ r.1.size ≤ 200 ∧ r.2.size ≤ 200 ∧ 0 < r.2.size := by
  obtain ⟨n, rfl⟩ : ∃ n : Nat, i = (n : Int) := ⟨i.toNat, by omega⟩
  have h := split_all ⟨n, by omega⟩
  cases hr : spec_l11Split.f 300 ((n : Nat) : Int) with
  | none => rw [hr] at h; exact absurd h (by decide)
  | some r =>
    rw [hr] at h
    simp only [Bool.and_eq_true, decide_eq_true_eq] at h
    exact ⟨r, Ev.of (fun k => spec_l11Split.mono _ k) hr, h.1.1, h.1.2, h.2⟩
theorem text11_ok {b : List Int} {c : Int} (h : Int) (hc : Cur b c) : ∃ t c' h', Ev (fun k => spec_l11Text.f k b c h) (t, c', h') ∧ t.size ≤ 200 ∧ Cur b c' := by
  obtain ⟨r, c1, h1, e1, r0, r1, hc1⟩ := below_ok h 13 (by omega) hc
  obtain ⟨t, et, ht, _⟩ := split_ok r r0 r1
  refine ⟨t.1, c1, h1, ?_, ht, hc1⟩
  unfold spec_l11Text.f
  rw [e1]
  simp only [Option.bind_some]
  exact Ev.bind et (Ev.now _)
theorem big_f (l : List Int) : laws_big.f l = some (decide ((l.length : Int) > 1048576)) := rfl
end Go.Proofs.Ythdoibaeamiepaa.MDrawFnRuleNames
