/- FnBinds: for every code the law's call returns true (what is bound is the number, if it is one or two figures; else how long it is). No condition. -/
import Derived.Test.YthlaimelcocioaaPFnBindsx3
namespace Go.Proofs.Ythlaimelcocioaa.Pure
open Go.RowKit Go.Proofs.Ythlaimelcocioaa.PFnBinds Go.Proofs.YthlaimelcocioaaW.PrintWords Go.Proofs.YthlaimelcocioaaW.PrintLast

theorem and255 (n : Int) : Go.bits .and .i64 n 255 = n % 256 := by
  have h255 : (BitVec.ofInt 64 255).toNat = 2 ^ 8 - 1 := by decide
  have key : (BitVec.ofInt 64 n &&& BitVec.ofInt 64 255).toNat = (n % ((2 ^ 64 : Nat) : Int)).toNat % 2 ^ 8 := by
    rw [BitVec.toNat_and, BitVec.toNat_ofInt, h255, Nat.and_two_pow_sub_one_eq_mod]
  show IntKind.i64.wrap ((BitVec.ofInt 64 n &&& BitVec.ofInt 64 255).toNat : Nat) = n % 256
  rw [key, IntKind.wrap_i64]
  omega

theorem w64 {x : Int} (h0 : -9223372036854775808 ≤ x) (h1 : x ≤ 9223372036854775807) : wrap64 x = x := by unfold wrap64; omega

/-- A cursor over a code that is not too long. -/
structure Cur (b : List Int) (i : Int) : Prop where
  lo : 0 ≤ i
  hi : i ≤ b.length
  sm : b.length ≤ 1048576

theorem byte_ok {b : List Int} {i : Int} (h : Int) (c : Cur b i) : ∃ r i' h', spec_l01Byte.f b i h = some (r, i', h') ∧ 0 ≤ r ∧ r ≤ 255 ∧ Cur b i' := by
  unfold spec_l01Byte.f
  have := c.lo; have := c.hi; have := c.sm
  by_cases h1 : i < (b.length : Int)
  · rw [if_pos h1, if_pos c.lo]
    simp only [and255]
    refine ⟨_, _, _, rfl, by omega, by omega, ?_, ?_, c.sm⟩
    · rw [w64 (by omega) (by omega)]; omega
    · rw [w64 (by omega) (by omega)]; omega
  · rw [if_neg h1]
    simp only [and255]
    exact ⟨_, _, _, rfl, by omega, by omega, c⟩

theorem below_ok {b : List Int} {i : Int} (h : Int) (n : Int) (hn : 0 < n) (c : Cur b i) : ∃ r i' h', spec_l01Below.f b i h n = some (r, i', h') ∧ 0 ≤ r ∧ r < n ∧ Cur b i' := by
  unfold spec_l01Below.f
  rw [if_neg (by omega)]
  by_cases h1 : n ≤ 256
  · rw [if_pos h1]
    obtain ⟨r, i', h', e, r0, r1, c'⟩ := byte_ok h c
    rw [e]
    simp only [Option.bind_some]
    rw [if_neg (by omega)]
    exact ⟨_, _, _, rfl, Int.tmod_nonneg _ r0, Int.tmod_lt_of_pos _ hn, c'⟩
  · rw [if_neg h1]
    obtain ⟨r, i', h', e, r0, r1, c'⟩ := byte_ok h c
    rw [e]
    simp only [Option.bind_some]
    obtain ⟨s, i2, h2, e2, s0, s1, c2⟩ := byte_ok h' c'
    rw [e2]
    simp only [Option.bind_some]
    obtain ⟨t, i3, h3, e3, t0, t1, c3⟩ := byte_ok h2 c2
    rw [e3]
    simp only [Option.bind_some]
    obtain ⟨u, i4, h4, e4, u0, u1, c4⟩ := byte_ok h3 c3
    rw [e4]
    simp only [Option.bind_some]
    rw [if_neg (by omega)]
    have w1 : wrap64 (r * 16777216) = r * 16777216 := w64 (by omega) (by omega)
    have w2 : wrap64 (s * 65536) = s * 65536 := w64 (by omega) (by omega)
    have w3 : wrap64 (t * 256) = t * 256 := w64 (by omega) (by omega)
    rw [w1, w2, w3, w64 (x := r * 16777216 + s * 65536) (by omega) (by omega), w64 (x := r * 16777216 + s * 65536 + t * 256) (by omega) (by omega), w64 (x := r * 16777216 + s * 65536 + t * 256 + u) (by omega) (by omega)]
    exact ⟨_, _, _, rfl, Int.tmod_nonneg _ (by omega), Int.tmod_lt_of_pos _ hn, c4⟩

theorem new_loop (b : List Int) (_hb : b.length ≤ 1048576) (d : Nat) : ∀ (h i : Int), 0 ≤ i → (b.length : Int) - i ≤ d → ∃ h', Ev (fun k => spec_l01New.l0 k b h i) (b, 0, h') := by
  induction d with
  | zero =>
    intro h i h0 hd
    exact ⟨h, Ev.step (f := fun _ => some (b, 0, h)) (fun k => by simp only [spec_l01New.l0]; rw [if_neg (by omega)]) (Ev.now _)⟩
  | succ d ih =>
    intro h i h0 hd
    by_cases h1 : i < (b.length : Int)
    · by_cases h2 : i < 4000
      · obtain ⟨h', e⟩ := ih (Go.bits .and .i64 (wrap64 ((wrap64 ((wrap64 (h * 131)) + (wrap64 (rd b i)))) + 7)) 1073741823) (wrap64 (i + 1)) (by rw [w64 (by omega) (by omega)]; omega) (by rw [w64 (by omega) (by omega)]; omega)
        exact ⟨h', Ev.step (fun k => by simp only [spec_l01New.l0]; rw [if_pos h1, if_pos h2, if_pos h0]) e⟩
      · exact ⟨h, Ev.step (f := fun _ => some (b, 0, h)) (fun k => by simp only [spec_l01New.l0]; rw [if_pos h1, if_neg h2]) (Ev.now _)⟩
    · exact ⟨h, Ev.step (f := fun _ => some (b, 0, h)) (fun k => by simp only [spec_l01New.l0]; rw [if_neg h1]) (Ev.now _)⟩

theorem new_ok (b : List Int) (hb : b.length ≤ 1048576) : ∃ h', Ev (fun k => spec_l01New.f k b) (b, 0, h') ∧ Cur b 0 := by
  obtain ⟨h', e⟩ := new_loop b hb b.length (wrap64 (34601 + (b.length : Int))) 0 (by omega) (by omega)
  exact ⟨h', e, ⟨by omega, by omega, hb⟩⟩

set_option linter.unusedVariables false
theorem places_loop (b : List Int) (d : Nat) : ∀ (l : List Int) (j : Int) (i h : Int), Cur b i → 0 ≤ j → j ≤ 12 → (12 : Int) - j = d → (l.length : Int) = j → (∀ x ∈ l, 0 ≤ x ∧ x < 10000) →
    ∃ r, Ev (fun k => spec_DrawPlaces.l0 k l j b i h) r ∧ r.length = 12 ∧ (∀ x ∈ r, 0 ≤ x ∧ x < 10000) := by
  induction d with
  | zero =>
    intro l j i h c h0 h1 hd hl hx
    exact ⟨l, Ev.step (f := fun _ => some l) (fun k => by simp only [spec_DrawPlaces.l0]; rw [if_neg (by omega)]) (Ev.now _), by omega, hx⟩
  | succ d ih =>
    intro l j i h c h0 h1 hd hl hx
    obtain ⟨r, i', h', e, r0, r1, c'⟩ := below_ok h 10000 (by omega) c
    obtain ⟨q, eq, hq, hq2⟩ := ih (l ++ [r]) (wrap64 (j + 1)) i' h' c' (by rw [w64 (by omega) (by omega)]; omega) (by rw [w64 (by omega) (by omega)]; omega) (by rw [w64 (by omega) (by omega)]; omega) (by rw [w64 (by omega) (by omega)]; simp; omega) (by
      intro x hm
      rcases List.mem_append.1 hm with hm | hm
      · exact hx x hm
      · rw [List.mem_singleton.1 hm]; exact ⟨r0, r1⟩)
    refine ⟨q, Ev.step (fun k => ?_) eq, hq, hq2⟩
    simp only [spec_DrawPlaces.l0]
    rw [if_pos (by omega), e]
    simp only [Option.bind_some]
    rw [if_pos (by omega)]

theorem places_ok (b : List Int) (hb : b.length ≤ 1048576) : ∃ r, Ev (fun k => spec_DrawPlaces.f k b) r ∧ r.length = 12 ∧ (∀ x ∈ r, 0 ≤ x ∧ x < 10000) := by
  obtain ⟨h', e, c⟩ := new_ok b hb
  obtain ⟨r, i1, h1, e1, _, _, c1⟩ := byte_ok h' c
  obtain ⟨q, eq, hq⟩ := places_loop b 12 [] 0 i1 h1 c1 (by omega) (by omega) (by omega) (by simp) (by simp)
  refine ⟨q, ?_, hq⟩
  unfold spec_DrawPlaces.f
  refine Ev.bind e ?_
  simp only [e1, Option.bind_some]
  exact eq

theorem long_loop (n : Int) (hn : n ≤ 1000) (d : Nat) : ∀ (l : List Int) (j : Int), 0 ≤ j → j ≤ n → n - j = d → (l.length : Int) = n → ∃ r, Ev (fun k => spec_l01Long.l0 k n 97 l j) r ∧ (r.size : Int) = n := by
  induction d with
  | zero =>
    intro l j h0 h1 hd hl
    exact ⟨strOfNums l, Ev.step (f := fun _ => some (strOfNums l)) (fun k => by simp only [spec_l01Long.l0]; rw [if_neg (by omega)]) (Ev.now _), by rw [strOfNums_size]; exact hl⟩
  | succ d ih =>
    intro l j h0 h1 hd hl
    have hw : wrap64 (j + 1) = j + 1 := w64 (by omega) (by omega)
    obtain ⟨r, e, hr⟩ := ih (l.set j.toNat 97) (wrap64 (j + 1)) (by omega) (by omega) (by omega) (by simp; exact hl)
    refine ⟨r, Ev.step (fun k => ?_) e, hr⟩
    simp only [spec_l01Long.l0]
    rw [if_pos (by omega), if_pos h0, if_pos (by omega)]

theorem long_ok (n : Int) (h0 : 0 ≤ n) (hn : n ≤ 1000) : ∃ r, Ev (fun k => spec_l01Long.f k n 97) r ∧ (r.size : Int) = n := by
  obtain ⟨r, e, hr⟩ := long_loop n hn n.toNat (List.replicate n.toNat 0) 0 (by omega) h0 (by omega) (by simp; omega)
  refine ⟨r, ?_, hr⟩
  unfold spec_l01Long.f
  simp only [if_pos h0, if_pos (show n.toNat ≤ 281474976710656 from by omega)]
  exact e

theorem bind_draw (b : List Int) (hb : b.length ≤ 1048576) : ∃ r, Ev (fun k => spec_DrawBindNum.f k b) r ∧ r.size ≤ 1000 := by
  obtain ⟨h', e, c⟩ := new_ok b hb
  obtain ⟨r1, i1, h1, e1, a1, b1, c1⟩ := below_ok h' 3 (by omega) c
  have hw : wrap64 (99 + r1) = 99 + r1 := w64 (by omega) (by omega)
  obtain ⟨t, et, ht⟩ := long_ok (99 + r1) (by omega) (by omega)
  have hp : ∃ s i2 h2, spec_l01Pick.f b i1 h1 [(⟨#[]⟩ : ByteArray), (⟨#[48]⟩ : ByteArray), (⟨#[55]⟩ : ByteArray), (⟨#[49, 50]⟩ : ByteArray), (⟨#[48, 55]⟩ : ByteArray), (⟨#[49, 50, 51]⟩ : ByteArray), (⟨#[97]⟩ : ByteArray), (⟨#[49, 97]⟩ : ByteArray), (⟨#[97, 98, 99, 100]⟩ : ByteArray), t] = some (s, i2, h2) ∧ s.size ≤ 1000 := by
    unfold spec_l01Pick.f
    obtain ⟨r2, i2, h2, e2, a2, b2, c2⟩ := below_ok h1 10 (by omega) c1
    have e2' : spec_l01Below.f b i1 h1 (([(⟨#[]⟩ : ByteArray), (⟨#[48]⟩ : ByteArray), (⟨#[55]⟩ : ByteArray), (⟨#[49, 50]⟩ : ByteArray), (⟨#[48, 55]⟩ : ByteArray), (⟨#[49, 50, 51]⟩ : ByteArray), (⟨#[97]⟩ : ByteArray), (⟨#[49, 97]⟩ : ByteArray), (⟨#[97, 98, 99, 100]⟩ : ByteArray), t] : List ByteArray).length : Int) = some (r2, i2, h2) := e2
    rw [e2']
    simp only [Option.bind_some]
    rw [if_pos a2, if_pos (by simpa using b2)]
    refine ⟨_, _, _, rfl, ?_⟩
    have : ∃ n : Nat, n < 10 ∧ r2 = n := ⟨r2.toNat, by omega, by omega⟩
    obtain ⟨n, hn, rfl⟩ := this
    have hts : t.size ≤ 1000 := by omega
    have : n = 0 ∨ n = 1 ∨ n = 2 ∨ n = 3 ∨ n = 4 ∨ n = 5 ∨ n = 6 ∨ n = 7 ∨ n = 8 ∨ n = 9 := by omega
    rcases this with rfl | rfl | rfl | rfl | rfl | rfl | rfl | rfl | rfl | rfl <;> first | exact hts | exact (by decide : (0 : Nat) ≤ 1000) | exact (by decide : (1 : Nat) ≤ 1000) | exact (by decide : (2 : Nat) ≤ 1000) | exact (by decide : (3 : Nat) ≤ 1000) | exact (by decide : (4 : Nat) ≤ 1000)
  obtain ⟨s, i2, h2, ep, hs⟩ := hp
  refine ⟨s, ?_, hs⟩
  unfold spec_DrawBindNum.f
  refine Ev.bind e ?_
  simp only [e1, Option.bind_some, hw]
  refine Ev.bind et ?_
  simp only [ep, Option.bind_some]
  exact Ev.now _

/-- What is bound. -/
def bindNum (s : ByteArray) : Int :=
  if s.size = 1 then (if 48 ≤ bt s 0 ∧ bt s 0 ≤ 57 then bt s 0 - 48 else 1)
  else if s.size = 2 then (if 48 ≤ bt s 0 ∧ bt s 0 ≤ 57 ∧ 48 ≤ bt s 1 ∧ bt s 1 ≤ 57 then 10 * (bt s 0 - 48) + (bt s 1 - 48) else 2)
  else mn (s.size : Int) 99

theorem isFig (c : Int) (h0 : 0 ≤ c) (h1 : c ≤ 255) : impl_isFigure.f c = some (decide (48 ≤ c ∧ c ≤ 57)) := by
  unfold impl_isFigure.f impl_within.f
  rw [w64 (by omega) (by omega)]
  by_cases h : c ≥ 48
  · rw [if_pos h]; simp; omega
  · rw [if_neg h]; simp; omega

theorem impl_false (s : ByteArray) (hs : s.size ≤ 1000) (d : Nat) : ∀ (n j : Int), 0 ≤ j → j ≤ s.size → (s.size : Int) - j = d → Ev (fun k => impl_BindNum.l0 k s false n (s.size : Int) j) (mn (s.size : Int) 99) := by
  induction d with
  | zero =>
    intro n j h0 h1 hd
    exact Ev.step (f := fun _ => some _) (fun k => by simp only [impl_BindNum.l0]; rw [if_neg (by omega), if_neg (by simp)]) (Ev.now _)
  | succ d ih =>
    intro n j h0 h1 hd
    have hw : wrap64 (j + 1) = j + 1 := w64 (by omega) (by omega)
    refine Ev.step (fun k => ?_) (ih (Int.tmod (wrap64 ((wrap64 ((wrap64 (10 * n)) + (wrap64 (bt s j)))) - 48)) 1000000000) (wrap64 (j + 1)) (by omega) (by omega) (by omega))
    simp only [impl_BindNum.l0]
    rw [if_pos (by omega), if_neg (by simp), if_pos h0, if_pos (by omega)]

theorem spec_false (s : ByteArray) (hs : s.size ≤ 1000) (d : Nat) : ∀ (n j : Int), 0 ≤ j → j ≤ s.size → (s.size : Int) - j = d → Ev (fun k => spec_BindNum.l0 k s n false j) (mn (s.size : Int) 99) := by
  induction d with
  | zero =>
    intro n j h0 h1 hd
    refine Ev.step (f := fun _ => some _) (fun k => ?_) (Ev.now _)
    simp only [spec_BindNum.l0]
    rw [if_neg (by omega), if_neg (by simp)]
    unfold mn
    by_cases h : (s.size : Int) > 99
    · rw [if_pos h]; congr 1; split <;> omega
    · rw [if_neg h]; congr 1; split <;> omega
  | succ d ih =>
    intro n j h0 h1 hd
    have hw : wrap64 (j + 1) = j + 1 := w64 (by omega) (by omega)
    refine Ev.step (fun k => ?_) (ih (wrap64 ((wrap64 ((wrap64 (10 * n)) + (wrap64 (bt s j)))) - 48)) (wrap64 (j + 1)) (by omega) (by omega) (by omega))
    simp only [spec_BindNum.l0]
    rw [if_pos (by omega), if_neg (by simp), if_pos h0]

theorem tmod_small {x : Int} (h0 : 0 ≤ x) (h1 : x < 1000000000) : Int.tmod x 1000000000 = x := Int.tmod_eq_of_lt h0 h1

theorem impl_ok (s : ByteArray) (hs : s.size ≤ 1000) : Ev (fun k => impl_BindNum.f k s) (bindNum s) := by
  unfold impl_BindNum.f impl_within.f
  have hr0 := bt_range s 0
  have hr1 := bt_range s 1
  by_cases h1 : s.size = 1
  · have e1 : (s.size : Int) = 1 := by omega
    simp only [e1]
    simp only [show ((1 : Int) ≥ 1) = True from by simp, if_true, Option.bind_some, show decide ((1 : Int) ≤ 2) = true from by decide]
    refine Ev.step (fun k => by simp only [impl_BindNum.l0]; rw [if_pos (by omega), if_pos trivial, if_pos (by omega), if_pos (by omega), isFig _ hr0.1 hr0.2]) ?_
    simp only [Option.bind_some]
    refine Ev.step (f := fun _ => some (bindNum s)) (fun k => ?_) (Ev.now _)
    simp only [impl_BindNum.l0]
    rw [if_neg (by unfold wrap64; omega)]
    unfold bindNum
    rw [if_pos h1]
    by_cases hd : 48 ≤ bt s 0 ∧ bt s 0 ≤ 57
    · rw [if_pos (by simpa using hd), if_pos hd]
      rw [w64 (x := 10 * 0) (by omega) (by omega), w64 (x := bt s 0) (by omega) (by omega), w64 (x := 10 * 0 + bt s 0) (by omega) (by omega), w64 (by omega) (by omega), tmod_small (by omega) (by omega)]
      congr 1; omega
    · rw [if_neg (by simpa using hd), if_neg hd]
      simp [e1, mn]
  · by_cases h2 : s.size = 2
    · have e2 : (s.size : Int) = 2 := by omega
      simp only [e2]
      simp only [show ((2 : Int) ≥ 1) = True from by simp, if_true, Option.bind_some, show decide ((2 : Int) ≤ 2) = true from by decide]
      refine Ev.step (fun k => by simp only [impl_BindNum.l0]; rw [if_pos (by omega), if_pos trivial, if_pos (by omega), if_pos (by omega), isFig _ hr0.1 hr0.2]) ?_
      simp only [Option.bind_some]
      rw [show wrap64 (0 + 1) = 1 from by unfold wrap64; omega]
      by_cases hd : 48 ≤ bt s 0 ∧ bt s 0 ≤ 57
      · simp only [hd, and_self, decide_true]
        rw [w64 (x := 10 * 0) (by omega) (by omega), w64 (x := bt s 0) (by omega) (by omega), w64 (x := 10 * 0 + bt s 0) (by omega) (by omega), w64 (by omega) (by omega), tmod_small (by omega) (by omega)]
        refine Ev.step (fun k => by simp only [impl_BindNum.l0]; rw [if_pos (by omega), if_pos trivial, if_pos (by omega), if_pos (by omega), isFig _ hr1.1 hr1.2]) ?_
        simp only [Option.bind_some]
        refine Ev.step (f := fun _ => some (bindNum s)) (fun k => ?_) (Ev.now _)
        simp only [impl_BindNum.l0]
        rw [if_neg (by unfold wrap64; omega)]
        unfold bindNum
        rw [if_neg h1, if_pos h2]
        by_cases hd1 : 48 ≤ bt s 1 ∧ bt s 1 ≤ 57
        · rw [if_pos (by simpa using hd1), if_pos ⟨hd.1, hd.2, hd1.1, hd1.2⟩]
          rw [w64 (x := 10 * (10 * 0 + bt s 0 - 48)) (by omega) (by omega), w64 (x := bt s 1) (by omega) (by omega), w64 (x := 10 * (10 * 0 + bt s 0 - 48) + bt s 1) (by omega) (by omega), w64 (by omega) (by omega), tmod_small (by omega) (by omega)]
          congr 1; omega
        · rw [if_neg (by simpa using hd1), if_neg (by intro h; exact hd1 ⟨h.2.2.1, h.2.2.2⟩)]
          simp [e2, mn]
      · have hf : decide (48 ≤ bt s 0 ∧ bt s 0 ≤ 57) = false := decide_eq_false hd
        rw [hf]
        have := impl_false s hs 1 (Int.tmod (wrap64 ((wrap64 ((wrap64 (10 * 0)) + (wrap64 (bt s 0)))) - 48)) 1000000000) 1 (by omega) (by omega) (by omega)
        rw [e2] at this
        have hb : bindNum s = mn 2 99 := by
          unfold bindNum
          rw [if_neg h1, if_pos h2, if_neg (by intro h; exact hd ⟨h.1, h.2.1⟩)]; simp [mn]
        rw [hb]
        exact this
    · have hb : bindNum s = mn (s.size : Int) 99 := by unfold bindNum; rw [if_neg h1, if_neg h2]
      rw [hb]
      by_cases h3 : (s.size : Int) ≥ 1
      · simp only [if_pos h3, Option.bind_some]
        rw [show decide ((s.size : Int) ≤ 2) = false from decide_eq_false (by omega)]
        exact impl_false s hs s.size 0 0 (by omega) (by omega) (by omega)
      · simp only [if_neg h3, Option.bind_some]
        exact impl_false s hs s.size 0 0 (by omega) (by omega) (by omega)

theorem spec_ok (s : ByteArray) (hs : s.size ≤ 1000) : Ev (fun k => spec_BindNum.f k s) (bindNum s) := by
  unfold spec_BindNum.f spec_l01In.f
  have hr0 := bt_range s 0
  have hr1 := bt_range s 1
  have hbig : ∀ _k : Nat, (if (s.size : Int) > 99 then (some 99) else (some (s.size : Int)) : Option Int) = some (mn (s.size : Int) 99) := by
    intro _; unfold mn
    by_cases h : (s.size : Int) > 99
    · rw [if_pos h]; congr 1; split <;> omega
    · rw [if_neg h]; congr 1; split <;> omega
  by_cases h1 : s.size = 1
  · have e1 : (s.size : Int) = 1 := by omega
    simp only [e1]
    simp only [show ((1 : Int) ≥ 1) = True from by simp, if_true, Option.bind_some, show decide ((1 : Int) ≤ 2) = true from by decide]
    by_cases hg : bt s 0 ≥ 48
    · refine Ev.step (fun k => by simp only [spec_BindNum.l0]; rw [if_pos (by omega), if_pos trivial, if_pos (by omega), if_pos hg]) ?_
      refine Ev.step (f := fun _ => some (bindNum s)) (fun k => ?_) (Ev.now _)
      simp only [spec_BindNum.l0]
      rw [if_neg (by unfold wrap64; omega)]
      unfold bindNum
      rw [if_pos h1]
      by_cases hd : bt s 0 ≤ 57
      · rw [if_pos (by simpa using hd), if_pos ⟨hg, hd⟩]
        rw [w64 (x := 10 * 0) (by omega) (by omega), w64 (x := bt s 0) (by omega) (by omega), w64 (x := 10 * 0 + bt s 0) (by omega) (by omega), w64 (by omega) (by omega)]
        congr 1; omega
      · rw [if_neg (by simpa using hd), if_neg (show ¬(48 ≤ bt s 0 ∧ bt s 0 ≤ 57) from fun h => hd h.2), if_neg (by omega), e1]
    · refine Ev.step (fun k => by simp only [spec_BindNum.l0]; rw [if_pos (by omega), if_pos trivial, if_pos (by omega), if_neg hg]) ?_
      refine Ev.step (f := fun _ => some (bindNum s)) (fun k => ?_) (Ev.now _)
      simp only [spec_BindNum.l0]
      rw [if_neg (by unfold wrap64; omega), if_neg (by simp), if_neg (by omega), e1]
      unfold bindNum
      rw [if_pos h1, if_neg (by intro h; exact hg h.1)]
  · by_cases h2 : s.size = 2
    · have e2 : (s.size : Int) = 2 := by omega
      simp only [e2]
      simp only [show ((2 : Int) ≥ 1) = True from by simp, if_true, Option.bind_some, show decide ((2 : Int) ≤ 2) = true from by decide]
      by_cases hd : 48 ≤ bt s 0 ∧ bt s 0 ≤ 57
      · refine Ev.step (fun k => by simp only [spec_BindNum.l0]; rw [if_pos (by omega), if_pos trivial, if_pos (by omega), if_pos hd.1]) ?_
        rw [show wrap64 (0 + 1) = 1 from by unfold wrap64; omega, show decide (bt s 0 ≤ 57) = true from decide_eq_true hd.2]
        rw [w64 (x := 10 * 0) (by omega) (by omega), w64 (x := bt s 0) (by omega) (by omega), w64 (x := 10 * 0 + bt s 0) (by omega) (by omega), w64 (by omega) (by omega)]
        by_cases hg : bt s 1 ≥ 48
        · refine Ev.step (fun k => by simp only [spec_BindNum.l0]; rw [if_pos (by omega), if_pos trivial, if_pos (by omega), if_pos hg]) ?_
          refine Ev.step (f := fun _ => some (bindNum s)) (fun k => ?_) (Ev.now _)
          simp only [spec_BindNum.l0]
          rw [if_neg (by unfold wrap64; omega)]
          unfold bindNum
          rw [if_neg h1, if_pos h2]
          by_cases hd1 : bt s 1 ≤ 57
          · rw [if_pos (by simpa using hd1), if_pos ⟨hd.1, hd.2, hg, hd1⟩]
            rw [w64 (x := 10 * (10 * 0 + bt s 0 - 48)) (by omega) (by omega), w64 (x := bt s 1) (by omega) (by omega), w64 (x := 10 * (10 * 0 + bt s 0 - 48) + bt s 1) (by omega) (by omega), w64 (by omega) (by omega)]
            congr 1; omega
          · rw [if_neg (by simpa using hd1), if_neg (show ¬(48 ≤ bt s 0 ∧ bt s 0 ≤ 57 ∧ 48 ≤ bt s 1 ∧ bt s 1 ≤ 57) from fun h => hd1 h.2.2.2), if_neg (by omega), e2]
        · refine Ev.step (fun k => by simp only [spec_BindNum.l0]; rw [if_pos (by omega), if_pos trivial, if_pos (by omega), if_neg hg]) ?_
          refine Ev.step (f := fun _ => some (bindNum s)) (fun k => ?_) (Ev.now _)
          simp only [spec_BindNum.l0]
          rw [if_neg (by unfold wrap64; omega), if_neg (by simp), if_neg (by omega), e2]
          unfold bindNum
          rw [if_neg h1, if_pos h2, if_neg (by intro h; exact hg h.2.2.1)]
      · have hb : bindNum s = mn (s.size : Int) 99 := by
          unfold bindNum
          rw [if_neg h1, if_pos h2, if_neg (by intro h; exact hd ⟨h.1, h.2.1⟩), e2]; simp [mn]
        rw [hb]
        by_cases hg : bt s 0 ≥ 48
        · refine Ev.step (fun k => by simp only [spec_BindNum.l0]; rw [if_pos (by omega), if_pos trivial, if_pos (by omega), if_pos hg]) ?_
          rw [show decide (bt s 0 ≤ 57) = false from decide_eq_false (by omega), show wrap64 (0 + 1) = 1 from by unfold wrap64; omega]
          exact spec_false s hs 1 _ 1 (by omega) (by omega) (by omega)
        · refine Ev.step (fun k => by simp only [spec_BindNum.l0]; rw [if_pos (by omega), if_pos trivial, if_pos (by omega), if_neg hg]) ?_
          rw [show wrap64 (0 + 1) = 1 from by unfold wrap64; omega]
          exact spec_false s hs 1 _ 1 (by omega) (by omega) (by omega)
    · have hb : bindNum s = mn (s.size : Int) 99 := by unfold bindNum; rw [if_neg h1, if_neg h2]
      rw [hb]
      by_cases h3 : (s.size : Int) ≥ 1
      · simp only [if_pos h3, Option.bind_some]
        rw [show decide ((s.size : Int) ≤ 2) = false from decide_eq_false (by omega)]
        simp only [hbig 0]
        exact Ev.now _
      · simp only [if_neg h3, Option.bind_some]
        simp only [hbig 0]
        exact Ev.now _

theorem row_loop (n : Int) (hn : n ≤ 200) (d : Nat) : ∀ (s : ByteArray) (j : Int), 0 ≤ j → j ≤ n → n - j = d → (s.size : Int) = j → (∀ i, 0 ≤ i → i < j → bt s i = 120) →
    ∃ r, Ev (fun k => laws_row.l0 k n (⟨#[120]⟩ : ByteArray) s j) r ∧ (r.size : Int) = n ∧ (∀ i, 0 ≤ i → i < n → bt r i = 120) := by
  induction d with
  | zero =>
    intro s j h0 h1 hd hs hb
    exact ⟨s, Ev.step (f := fun _ => some s) (fun k => by simp only [laws_row.l0]; rw [if_neg (by omega)]) (Ev.now _), by omega, fun i a b => hb i a (by omega)⟩
  | succ d ih =>
    intro s j h0 h1 hd hs hb
    have hw : wrap64 (j + 1) = j + 1 := w64 (by omega) (by omega)
    have hsz : (s ++ (⟨#[120]⟩ : ByteArray)).size = s.size + 1 := by rw [ByteArray.size_append]; rfl
    obtain ⟨r, e, hr, hb2⟩ := ih (s ++ (⟨#[120]⟩ : ByteArray)) (wrap64 (j + 1)) (by omega) (by omega) (by omega) (by omega) (by
      intro i a b
      unfold bt
      rw [dif_pos (by omega)]
      by_cases hi : i.toNat < s.size
      · rw [ByteArray.getElem_append_left hi]
        have := hb i a (by omega)
        unfold bt at this
        rwa [dif_pos hi] at this
      · have hi' : i.toNat = s.size := by omega
        rw [ByteArray.getElem_append_right (by omega)]
        simp only [hi', Nat.sub_self]
        rfl)
    refine ⟨r, Ev.step (fun k => ?_) e, hr, hb2⟩
    simp only [laws_row.l0]
    rw [if_pos (by omega), if_pos (by show s.size + 1 ≤ _; omega)]

theorem row_ok (n : Int) (h0 : 0 ≤ n) (hn : n ≤ 200) : ∃ r, Ev (fun k => laws_row.f k n (⟨#[120]⟩ : ByteArray)) r ∧ r.size ≤ 1000 ∧ bindNum r = mn n 99 := by
  obtain ⟨r, e, hr, hb⟩ := row_loop n hn n.toNat (⟨#[]⟩ : ByteArray) 0 (by omega) h0 (by omega) rfl (fun i a b => by omega)
  refine ⟨r, e, by omega, ?_⟩
  unfold bindNum
  by_cases h1 : r.size = 1
  · rw [if_pos h1, if_neg (by have := hb 0 (by omega) (by omega); omega)]
    rw [show n = 1 from by omega]; rfl
  · by_cases h2 : r.size = 2
    · rw [if_neg h1, if_pos h2, if_neg (by have := hb 0 (by omega) (by omega); omega)]
      rw [show n = 2 from by omega]; rfl
    · rw [if_neg h1, if_neg h2, hr]

theorem dec_all : ∀ n : Fin 100, ((spec_Decimal.f 4 (n.val : Int)).bind fun s => some (decide (s.size ≤ 1000), bindNum s)) = some (true, (n.val : Int)) := by decide +kernel

theorem dec_ok (n : Int) (h0 : 0 ≤ n) (h1 : n < 100) : ∃ s, Ev (fun k => spec_Decimal.f k n) s ∧ s.size ≤ 1000 ∧ bindNum s = n := by
  have h := dec_all ⟨n.toNat, by omega⟩
  simp only at h
  rw [show ((n.toNat : Nat) : Int) = n from by omega] at h
  obtain ⟨s, hs, h2⟩ := Option.bind_eq_some_iff.mp h
  simp only [Option.some.injEq, Prod.mk.injEq, decide_eq_true_eq] at h2
  exact ⟨s, Ev.of (spec_Decimal.mono n) hs, h2.1, h2.2⟩

theorem FnBinds : laws_FnBinds.Pure := by
  intro l0 _ _ _
  refine Ev.rounds ?_
  unfold laws_FnBinds.f laws_big.f
  simp only [Option.bind_some]
  by_cases hb : (l0.length : Int) > 1048576
  · simp only [hb, decide_true, if_true]
    exact Ev.now _
  · simp only [hb, decide_false]
    have hb' : l0.length ≤ 1048576 := by omega
    simp only [Bool.false_eq_true, if_false]
    obtain ⟨p, ep, hp, hx⟩ := places_ok l0 hb'
    obtain ⟨s, es, hs⟩ := bind_draw l0 hb'
    have hrd : ∀ i : Nat, i < 12 → 0 ≤ rd p i ∧ rd p i < 10000 := by
      intro i hi
      have : rd p i = p[i]'(by omega) := by unfold rd; simp [List.getD, hp, hi]
      rw [this]
      exact hx _ (List.getElem_mem _)
    have q0 := hrd 0 (by omega)
    have q1 := hrd 1 (by omega)
    have m0 : 0 ≤ Int.tmod (rd p 0) 100 := Int.tmod_nonneg _ q0.1
    have m1 : Int.tmod (rd p 0) 100 < 100 := Int.tmod_lt_of_pos _ (by omega)
    have m2 : 0 ≤ Int.tmod (rd p 1) 120 := Int.tmod_nonneg _ q1.1
    have m3 : Int.tmod (rd p 1) 120 < 120 := Int.tmod_lt_of_pos _ (by omega)
    refine Ev.bind ep ?_
    refine Ev.bind es ?_
    simp only [hp]
    simp only [show (0 : Int) < ((12 : Nat) : Int) from by omega, show (1 : Int) < ((12 : Nat) : Int) from by omega, if_true]
    obtain ⟨d, ed, hd, hd2⟩ := dec_ok _ m0 m1
    refine Ev.bind ed ?_
    refine Ev.bind (impl_ok d hd) ?_
    simp only [hd2, if_true]
    obtain ⟨r, er, hr, hr2⟩ := row_ok _ m2 (by omega)
    refine Ev.bind er ?_
    refine Ev.bind (impl_ok r hr) ?_
    have hmin : ∀ a : Int, laws_min2.f a 99 = some (mn a 99) := by
      intro a; unfold laws_min2.f mn
      split <;> congr 1 <;> split <;> omega
    simp only [hmin, Option.bind_some, hr2, if_true]
    refine Ev.bind (impl_ok (⟨#[49, 50, 51]⟩ : ByteArray) (by decide)) ?_
    simp only [show bindNum (⟨#[49, 50, 51]⟩ : ByteArray) = 3 from by decide, if_true]
    refine Ev.bind (impl_ok (⟨#[48, 55]⟩ : ByteArray) (by decide)) ?_
    simp only [show bindNum (⟨#[48, 55]⟩ : ByteArray) = 7 from by decide, if_true]
    refine Ev.bind (impl_ok s hs) ?_
    refine Ev.bind (spec_ok s hs) ?_
    simp only [if_true]
    refine Ev.bind (impl_ok (⟨#[]⟩ : ByteArray) (by decide)) ?_
    simp only [show bindNum (⟨#[]⟩ : ByteArray) = 0 from by decide]
    exact Ev.now _

end Go.Proofs.Ythlaimelcocioaa.Pure
