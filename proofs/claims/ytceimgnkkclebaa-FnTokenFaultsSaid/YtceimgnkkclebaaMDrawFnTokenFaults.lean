/- What the draws of the law come to: a value of its kind, whatever the code is. Plain lemmas; no condition. -/
import Derived.Test.YtceimgnkkclebaaLp
import Derived.Test.YtceimgnkkclebaaPFnTokenFaultsx9
namespace Go.Proofs.Ytceimgnkkclebaa.MDrawFnTokenFaults
open Go.RowKit Go.Proofs.Ytceimgnkkclebaa.PFnTokenFaults Go.Proofs.YtceimgnkkclebaaPl Go.Proofs.YtceimgnkkclebaaLp Go.Proofs.YtceimgnkkclebaaW.PrintWords Go.Proofs.YtceimgnkkclebaaW.PrintLast
set_option linter.unusedVariables false
set_option linter.unusedSimpArgs false
theorem and255 (n : Int) : Go.bits .and .i64 n 255 = n % 256 := by
  have h255 : (BitVec.ofInt 64 255).toNat = 2 ^ 8 - 1 := by decide
  have key : (BitVec.ofInt 64 n &&& BitVec.ofInt 64 255).toNat = (n % ((2 ^ 64 : Nat) : Int)).toNat % 2 ^ 8 := by
    rw [BitVec.toNat_and, BitVec.toNat_ofInt, h255, Nat.and_two_pow_sub_one_eq_mod]
  show IntKind.i64.wrap ((BitVec.ofInt 64 n &&& BitVec.ofInt 64 255).toNat : Nat) = n % 256
  rw [key, IntKind.wrap_i64]
  omega


/-- A cursor over a code that is not too long. -/
structure Cur (b : List Int) (i : Int) : Prop where
  lo : 0 ≤ i
  hi : i ≤ b.length
  sm : b.length ≤ 1048576

theorem byte_ok {b : List Int} {i : Int} (h : Int) (c : Cur b i) : ∃ r i' h', spec_l01Byte.f b i h = some (r, i', h') ∧ 0 ≤ r ∧ r ≤ 255 ∧ Cur b i' := by
  unfold spec_l01Byte.f
  have := c.lo; have := c.hi; have := c.sm
  by_cases h1 : i < (b.length : Int)
  · rw [if_pos h1, if_pos c.lo]
    simp only [and255]
    refine ⟨_, _, _, rfl, by omega, by omega, ?_, ?_, c.sm⟩
    · rw [w64 (by omega) (by omega)]; omega
    · rw [w64 (by omega) (by omega)]; omega
  · rw [if_neg h1]
    simp only [and255]
    exact ⟨_, _, _, rfl, by omega, by omega, c⟩

theorem below_ok {b : List Int} {i : Int} (h : Int) (n : Int) (hn : 0 < n) (c : Cur b i) : ∃ r i' h', spec_l01Below.f b i h n = some (r, i', h') ∧ 0 ≤ r ∧ r < n ∧ Cur b i' := by
  unfold spec_l01Below.f
  rw [if_neg (by omega)]
  by_cases h1 : n ≤ 256
  · rw [if_pos h1]
    obtain ⟨r, i', h', e, r0, r1, c'⟩ := byte_ok h c
    rw [e]
    simp only [Option.bind_some]
    rw [if_neg (by omega)]
    exact ⟨_, _, _, rfl, Int.tmod_nonneg _ r0, Int.tmod_lt_of_pos _ hn, c'⟩
  · rw [if_neg h1]
    obtain ⟨r, i', h', e, r0, r1, c'⟩ := byte_ok h c
    rw [e]
    simp only [Option.bind_some]
    obtain ⟨s, i2, h2, e2, s0, s1, c2⟩ := byte_ok h' c'
    rw [e2]
    simp only [Option.bind_some]
    obtain ⟨t, i3, h3, e3, t0, t1, c3⟩ := byte_ok h2 c2
    rw [e3]
    simp only [Option.bind_some]
    obtain ⟨u, i4, h4, e4, u0, u1, c4⟩ := byte_ok h3 c3
    rw [e4]
    simp only [Option.bind_some]
    rw [if_neg (by omega)]
    have w1 : wrap64 (r * 16777216) = r * 16777216 := w64 (by omega) (by omega)
    have w2 : wrap64 (s * 65536) = s * 65536 := w64 (by omega) (by omega)
    have w3 : wrap64 (t * 256) = t * 256 := w64 (by omega) (by omega)
    rw [w1, w2, w3, w64 (x := r * 16777216 + s * 65536) (by omega) (by omega), w64 (x := r * 16777216 + s * 65536 + t * 256) (by omega) (by omega), w64 (x := r * 16777216 + s * 65536 + t * 256 + u) (by omega) (by omega)]
    exact ⟨_, _, _, rfl, Int.tmod_nonneg _ (by omega), Int.tmod_lt_of_pos _ hn, c4⟩

theorem new_loop (b : List Int) (_hb : b.length ≤ 1048576) (d : Nat) : ∀ (h i : Int), 0 ≤ i → (b.length : Int) - i ≤ d → ∃ h', Ev (fun k => spec_l01New.l0 k b h i) (b, 0, h') := by
  induction d with
  | zero =>
    intro h i h0 hd
    exact ⟨h, Ev.step (f := fun _ => some (b, 0, h)) (fun k => by simp only [spec_l01New.l0]; rw [if_neg (by omega)]) (Ev.now _)⟩
  | succ d ih =>
    intro h i h0 hd
    by_cases h1 : i < (b.length : Int)
    · by_cases h2 : i < 4000
      · obtain ⟨h', e⟩ := ih (Go.bits .and .i64 (wrap64 ((wrap64 ((wrap64 (h * 131)) + (wrap64 (rd b i)))) + 7)) 1073741823) (wrap64 (i + 1)) (by rw [w64 (by omega) (by omega)]; omega) (by rw [w64 (by omega) (by omega)]; omega)
        exact ⟨h', Ev.step (fun k => by simp only [spec_l01New.l0]; rw [if_pos h1, if_pos h2, if_pos h0]) e⟩
      · exact ⟨h, Ev.step (f := fun _ => some (b, 0, h)) (fun k => by simp only [spec_l01New.l0]; rw [if_pos h1, if_neg h2]) (Ev.now _)⟩
    · exact ⟨h, Ev.step (f := fun _ => some (b, 0, h)) (fun k => by simp only [spec_l01New.l0]; rw [if_neg h1]) (Ev.now _)⟩

theorem new_ok (b : List Int) (hb : b.length ≤ 1048576) : ∃ h', Ev (fun k => spec_l01New.f k b) (b, 0, h') ∧ Cur b 0 := by
  obtain ⟨h', e⟩ := new_loop b hb b.length (wrap64 (34601 + (b.length : Int))) 0 (by omega) (by omega)
  exact ⟨h', e, ⟨by omega, by omega, hb⟩⟩

theorem pick_ok {b : List Int} {c : Int} (h : Int) (L : List ByteArray) (hL : 0 < L.length) (hl : L.length ≤ 100) (hc : Cur b c) : ∃ x c' h', spec_l01Pick.f b c h L = some (x, c', h') ∧ x ∈ L ∧ Cur b c' := by
  obtain ⟨r, c1, h1, e1, r0, r1, hc1⟩ := below_ok h (L.length : Int) (by omega) hc
  refine ⟨rdOf ByteArray.empty L r, c1, h1, ?_, ?_, hc1⟩
  · unfold spec_l01Pick.f
    rw [e1, Option.bind_some]
    dsimp only
    rw [if_pos r0, if_pos r1]
  · unfold rdOf
    exact getD_mem L ByteArray.empty (by omega)
theorem nums_size (l : List Int) : (strOfNums l).size = l.length := by simp [strOfNums, ByteArray.size]
theorem text_loop {b : List Int} (n : Nat) (hn : n ≤ 5000) : ∀ (d i : Nat) (c h : Int) (l : List Int), i + d = n → l.length = i → Cur b c → ∃ t c' h', Ev (fun k => spec_l01Text.l0 k (n : Int) l (i : Int) b c h) (t, c', h') ∧ t.size = n ∧ Cur b c' := by
  intro d
  induction d with
  | zero =>
    intro i c h l hd hl hc
    have hn' : ¬ (i : Int) < (n : Int) := by omega
    exact ⟨strOfNums l, c, h, Ev.done (fun k => by simp only [spec_l01Text.l0, if_neg hn']), by rw [nums_size]; omega, hc⟩
  | succ d ih =>
    intro i c h l hd hl hc
    obtain ⟨r, c1, h1, e1, r0, r1, hc1⟩ := byte_ok h hc
    obtain ⟨t, c', h', e, ht, hc'⟩ := ih (i + 1) c1 h1 (l ++ [r % 256]) (by omega) (by rw [List.length_append, List.length_singleton]; omega) hc1
    have a1 : (i : Int) < (n : Int) := by omega
    have a2 : l.length < 140737488355328 := by omega
    have a3 : wrap64 ((i : Int) + 1) = ((i + 1 : Nat) : Int) := up64 (n := n) (by omega) (by omega)
    refine ⟨t, c', h', Ev.step (fun k => ?_) e, ht, hc'⟩
    simp only [spec_l01Text.l0, if_pos a1, e1, if_pos a2, a3]
    rfl
theorem text_ok {b : List Int} {c : Int} (h : Int) (n : Nat) (hn : n ≤ 5000) (hc : Cur b c) : ∃ t c' h', Ev (fun k => spec_l01Text.f k b c h (n : Int)) (t, c', h') ∧ t.size = n ∧ Cur b c' := by
  obtain ⟨t, c', h', e, ht, hc'⟩ := text_loop n hn n 0 c h [] (by omega) rfl hc
  refine ⟨t, c', h', ?_, ht, hc'⟩
  unfold spec_l01Text.f
  have a1 : ¬ (n : Int) > 5000 := by omega
  simp only [if_neg a1]
  exact Ev.step (fun k => by simp only [spec_l01Text.j0]; rfl) e
theorem long_ok (n : Nat) (x : Int) (hn : n ≤ 100000) : ∃ t, Ev (fun k => spec_l01Long.f k (n : Int) x) t ∧ t.size = n := by
  have main : ∀ (d i : Nat) (l : List Int), i + d = n → l.length = n → ∃ t, Ev (fun k => spec_l01Long.l0 k (n : Int) x l (i : Int)) t ∧ t.size = n := by
    intro d
    induction d with
    | zero =>
      intro i l hd hl
      have hn' : ¬ (i : Int) < (n : Int) := by omega
      exact ⟨strOfNums l, Ev.done (fun k => by simp only [spec_l01Long.l0, if_neg hn']), by simp [strOfNums, ByteArray.size, hl]⟩
    | succ d ih =>
      intro i l hd hl
      have a1 : (i : Int) < (n : Int) := by omega
      have a2 : (0 : Int) ≤ (i : Int) := by omega
      have a3 : (i : Int) < (l.length : Int) := by omega
      have a4 : wrap64 ((i : Int) + 1) = ((i + 1 : Nat) : Int) := up64 (n := n) (by omega) (by omega)
      obtain ⟨t, e, ht⟩ := ih (i + 1) (l.set ((i : Nat) : Int).toNat x) (by omega) (by rw [List.length_set]; exact hl)
      exact ⟨t, Ev.step (fun k => by simp only [spec_l01Long.l0, if_pos a1, if_pos a2, if_pos a3, a4]) e, ht⟩
  obtain ⟨t, e, ht⟩ := main n 0 (List.replicate ((n : Nat) : Int).toNat 0) (by omega) (by rw [List.length_replicate]; omega)
  refine ⟨t, ?_, ht⟩
  have a1 : (0 : Int) ≤ (n : Int) := by omega
  have a2 : ((n : Nat) : Int).toNat ≤ 281474976710656 := by omega
  unfold spec_l01Long.f
  simp only [if_pos a1, if_pos a2]
  exact e
set_option maxRecDepth 100000 in
theorem split_all : ∀ i : Fin 13, (match spec_l11Split.f 300 ((i.val : Nat) : Int) with | some r => decide (r.1.size ≤ 200) && decide (r.2.size ≤ 200) && decide (0 < r.2.size) | none => false) = true := by decide +kernel
theorem split_ok (i : Int) (h0 : 0 ≤ i) (h1 : i < 13) : ∃ r : ByteArray × ByteArray, Ev (fun k => spec_l11Split.f k i) r ∧ r.1.size ≤ 200 ∧ r.2.size ≤ 200 ∧ 0 < r.2.size := by
  obtain ⟨n, rfl⟩ : ∃ n : Nat, i = (n : Int) := ⟨i.toNat, by omega⟩
  have h := split_all ⟨n, by omega⟩
  cases hr : spec_l11Split.f 300 ((n : Nat) : Int) with
  | none => rw [hr] at h; exact absurd h (by decide)
  | some r =>
    rw [hr] at h
    simp only [Bool.and_eq_true, decide_eq_true_eq] at h
    exact ⟨r, Ev.of (fun k => spec_l11Split.mono _ k) hr, h.1.1, h.1.2, h.2⟩
theorem text11_ok {b : List Int} {c : Int} (h : Int) (hc : Cur b c) : ∃ t c' h', Ev (fun k => spec_l11Text.f k b c h) (t, c', h') ∧ t.size ≤ 200 ∧ Cur b c' := by
  obtain ⟨r, c1, h1, e1, r0, r1, hc1⟩ := below_ok h 13 (by omega) hc
  obtain ⟨t, et, ht, _⟩ := split_ok r r0 r1
  refine ⟨t.1, c1, h1, ?_, ht, hc1⟩
  unfold spec_l11Text.f
  rw [e1]
  simp only [Option.bind_some]
  exact Ev.bind et (Ev.now _)
theorem spoilt_ok {b : List Int} {c : Int} (h : Int) (s : ByteArray) (hs : s.size ≤ 1000000) (hc : Cur b c) : ∃ t c' h', Ev (fun k => spec_l02Spoilt.f k b c h s) (t, c', h') ∧ t.size ≤ s.size + 1 ∧ Cur b c' := by
  obtain ⟨r, c1, h1, e1, r0, r1, hc1⟩ := below_ok h 12 (by omega) hc
  unfold spec_l02Spoilt.f
  simp only [e1, Option.bind_some]
  by_cases h0 : r = 0
  · obtain ⟨t, c2, h2, e2, ht, hc2⟩ := text_ok h1 1 (by omega) hc1
    refine ⟨s ++ t, c2, h2, ?_, by rw [ByteArray.size_append]; omega, hc2⟩
    simp only [if_pos h0]
    refine Ev.bind e2 ?_
    simp only [if_pos (show s.size + t.size ≤ 9223372036854775807 by omega)]
    exact Ev.now _
  · simp only [if_neg h0]
    by_cases h1' : r = 1
    · have n1 : (s.size : Int) + 1 = ((s.size + 1 : Nat) : Int) := by omega
      have w : wrap64 ((s.size : Int) + 1) = ((s.size + 1 : Nat) : Int) := up64 (n := s.size + 1) (by omega) (by omega)
      obtain ⟨q, c2, h2, e2, q0, q1, hc2⟩ := below_ok h1 ((s.size + 1 : Nat) : Int) (by clear w; omega) hc1
      have a2 : q ≤ (s.size : Int) := by clear w; omega
      refine ⟨s.extract 0 q.toNat, c2, h2, ?_, by rw [ByteArray.size_extract]; clear w; omega, hc2⟩
      simp only [if_pos h1', w, e2, Option.bind_some, if_pos q0, if_pos a2]
      exact Ev.now _
    · simp only [if_neg h1']
      have j0 : ∀ x : Bool, ∃ t c' h', Ev (fun k => spec_l02Spoilt.j0 k s x b c1 h1) (t, c', h') ∧ t.size ≤ s.size + 1 ∧ Cur b c' := by
        intro x
        cases x with
        | false => exact ⟨s, c1, h1, Ev.done (fun k => by simp only [spec_l02Spoilt.j0, Bool.false_eq_true, if_false]), by omega, hc1⟩
        | true =>
          by_cases hp : (s.size : Int) > 0
          · obtain ⟨q, c2, h2, e2, q0, q1, hc2⟩ := below_ok h1 (s.size : Int) hp hc1
            obtain ⟨t, c3, h3, e3, ht, hc3⟩ := text_ok h2 1 (by omega) hc2
            have a2 : q ≤ (s.size : Int) := by omega
            have s1 : (s.extract 0 q.toNat).size = q.toNat := by rw [ByteArray.size_extract]; omega
            have a3 : (s.extract 0 q.toNat).size + t.size ≤ 9223372036854775807 := by omega
            have w : wrap64 (q + 1) = q + 1 := w64 (by omega) (by omega)
            have a4 : 0 ≤ q + 1 := by clear w; omega
            have a5 : q + 1 ≤ (s.size : Int) := by clear w; omega
            have s2 : (s.extract (q + 1).toNat s.size).size = s.size - (q + 1).toNat := by rw [ByteArray.size_extract]; clear w; omega
            have a6 : ((s.extract 0 q.toNat) ++ t).size + (s.extract (q + 1).toNat s.size).size ≤ 9223372036854775807 := by rw [ByteArray.size_append, s1, s2]; clear w; omega
            refine ⟨((s.extract 0 q.toNat) ++ t) ++ (s.extract (q + 1).toNat s.size), c3, h3, ?_, by rw [ByteArray.size_append, ByteArray.size_append, s1, s2]; clear w; omega, hc3⟩
            refine Ev.step (fun k => by simp only [spec_l02Spoilt.j0, if_true, if_pos hp, e2, Option.bind_some, if_pos q0, if_pos a2]; rfl) ?_
            refine Ev.bind e3 ?_
            simp only [if_pos a3, w, if_pos a4, if_pos a5, if_pos a6]
            exact Ev.now _
          · exact ⟨s, c1, h1, Ev.done (fun k => by simp only [spec_l02Spoilt.j0, if_true, if_neg hp]), by omega, hc1⟩
      by_cases h2 : r = 2
      · obtain ⟨t, c', h', e, ht, hc'⟩ := j0 (r == 2)
        exact ⟨t, c', h', Ev.same e (fun k => by simp only [if_pos h2]), ht, hc'⟩
      · obtain ⟨t, c', h', e, ht, hc'⟩ := j0 (r == 3)
        exact ⟨t, c', h', Ev.same e (fun k => by simp only [if_neg h2]), ht, hc'⟩
theorem drawTokens_ok (l : List Int) (hl : l.length ≤ 1048576) : ∃ s, Ev (fun k => spec_DrawTokens.f k l) s := by
  obtain ⟨h0, e0, hc0⟩ := new_ok l hl
  obtain ⟨k6, c1, h1, e1, r0, r1, hc1⟩ := below_ok h0 6 (by omega) hc0
  obtain ⟨more, c2, h2, e2, hm, hc2⟩ := pick_ok h1 [(⟨#[116, 111, 111, 108, 111, 110, 103, 49]⟩ : ByteArray), (⟨#[49, 50, 51]⟩ : ByteArray), (⟨#[34, 34]⟩ : ByteArray), (⟨#[34, 120]⟩ : ByteArray), (⟨#[91]⟩ : ByteArray), (⟨#[91, 99, 45, 97, 93]⟩ : ByteArray), (⟨#[91, 97, 45, 99, 93]⟩ : ByteArray), (⟨#[45, 62]⟩ : ByteArray), (⟨#[35, 32, 114]⟩ : ByteArray), (⟨#[126]⟩ : ByteArray), (⟨#[45, 32, 62]⟩ : ByteArray), (⟨#[37]⟩ : ByteArray)] (by decide) (by decide) hc1
  have hms : ∀ s ∈ [(⟨#[116, 111, 111, 108, 111, 110, 103, 49]⟩ : ByteArray), (⟨#[49, 50, 51]⟩ : ByteArray), (⟨#[34, 34]⟩ : ByteArray), (⟨#[34, 120]⟩ : ByteArray), (⟨#[91]⟩ : ByteArray), (⟨#[91, 99, 45, 97, 93]⟩ : ByteArray), (⟨#[91, 97, 45, 99, 93]⟩ : ByteArray), (⟨#[45, 62]⟩ : ByteArray), (⟨#[35, 32, 114]⟩ : ByteArray), (⟨#[126]⟩ : ByteArray), (⟨#[45, 32, 62]⟩ : ByteArray), (⟨#[37]⟩ : ByteArray)], s.size ≤ 100 := by decide
  have hmore := hms _ hm
  obtain ⟨t, c3, h3, e3, ht, hc3⟩ := text11_ok h2 hc2
  have fin : ∀ s, Ev (fun k => if k6 = 0 then ((spec_l02Spoilt.f k l c3 h3 t).bind fun bt180 => (some bt180.1)) else (if k6 = 1 then (if t.size + more.size ≤ 9223372036854775807 then (some (t ++ more)) else (none)) else (if k6 = 2 then ((spec_l01Below.f l c3 h3 2).bind fun bt183 => ((spec_l01Long.f k (wrap64 ((600 - ((t.size : Int) % 600)) + bt183.1)) 32).bind fun t186 => (if t.size + t186.size ≤ 9223372036854775807 then (some (t ++ t186)) else (none)))) else (some t)))) s → Ev (fun k => spec_DrawTokens.f k l) s := by
    intro s e
    unfold spec_DrawTokens.f
    refine Ev.bind e0 ?_
    simp only [e1, e2, Option.bind_some]
    exact Ev.bind e3 e
  by_cases q0 : k6 = 0
  · obtain ⟨s, c', h', e, _, _⟩ := spoilt_ok h3 t (by omega) hc3
    refine ⟨s, fin s ?_⟩
    simp only [if_pos q0]
    exact Ev.bind e (Ev.now _)
  · by_cases q1 : k6 = 1
    · refine ⟨t ++ more, fin _ ?_⟩
      simp only [if_neg q0, if_pos q1, if_pos (show t.size + more.size ≤ 9223372036854775807 by omega)]
      exact Ev.now _
    · by_cases q2 : k6 = 2
      · obtain ⟨r, c4, h4, e4, s0, s1, hc4⟩ := below_ok h3 2 (by omega) hc3
        have n0 : (600 - ((t.size : Int) % 600)) + r = ((600 - t.size % 600 + r.toNat : Nat) : Int) := by omega
        have w : wrap64 ((600 - ((t.size : Int) % 600)) + r) = ((600 - t.size % 600 + r.toNat : Nat) : Int) := by rw [n0]; exact w64 (by omega) (by omega)
        obtain ⟨u, eu, hu⟩ := long_ok (600 - t.size % 600 + r.toNat) 32 (by clear w; omega)
        refine ⟨t ++ u, fin _ ?_⟩
        simp only [if_neg q0, if_neg q1, if_pos q2, e4, Option.bind_some, w]
        refine Ev.bind eu ?_
        simp only [if_pos (show t.size + u.size ≤ 9223372036854775807 by clear w; omega)]
        exact Ev.now _
      · refine ⟨t, fin _ ?_⟩
        simp only [if_neg q0, if_neg q1, if_neg q2]
        exact Ev.now _
theorem big_f (l : List Int) : laws_big.f l = some (decide ((l.length : Int) > 1048576)) := rfl
end Go.Proofs.Ytceimgnkkclebaa.MDrawFnTokenFaults
