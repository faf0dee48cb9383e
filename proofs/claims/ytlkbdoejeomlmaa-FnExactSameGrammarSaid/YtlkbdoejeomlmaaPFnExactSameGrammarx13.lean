/- Written by a program of this session out of Lean's print of the translation: what the calls of these Go functions come to, in plain Lean. No condition. -/
import Derived.Test.YtlkbdoejeomlmaaPFnExactSameGrammarx0
import Derived.Test.YtlkbdoejeomlmaaPFnExactSameGrammarx2
import Derived.Test.YtlkbdoejeomlmaaPFnExactSameGrammarx4
import Derived.Test.YtlkbdoejeomlmaaPFnExactSameGrammarx6
import Derived.Test.YtlkbdoejeomlmaaPFnExactSameGrammarx8
import Derived.Test.YtlkbdoejeomlmaaPFnExactSameGrammarx12
namespace Go.Proofs.Ytlkbdoejeomlmaa.PFnExactSameGrammar
open Go.RowKit Go.Proofs.YtlkbdoejeomlmaaW.PrintWords Go.Proofs.YtlkbdoejeomlmaaW.PrintLast Go.Proofs.YtlkbdoejeomlmaaW.PrintMore
attribute [local go_sem] max2_int min2_int max_two min_two max_three min_three max_four min_four   -- for this text's walks alone
set_option linter.unusedVariables false
set_option linter.unusedSimpArgs false

/-! ### laws_FnExactSameGrammar: function 11 -/
def laws_FnExactSameGrammar.f (k : Nat) (l0_0 : List (S225)) (l1_0 : List (S225)) : Option (Bool) := (laws_szGrammar.f k l0_0 1048576).bind fun t343 => (if t343 < 0 then (some true) else ((laws_szGrammar.f k l1_0 t343).bind fun t344 => (if t344 < 0 then (some true) else ((laws_toGrammar.f k l0_0).bind fun t345 => ((laws_toGrammar.f k l1_0).bind fun t348 => ((spec_SameGrammar.f k t345 t348).bind fun t351 => ((laws_toGrammar.f k l0_0).bind fun t352 => ((laws_toGrammar.f k l1_0).bind fun t356 => ((impl_SameGrammar.f k t352 t356).bind fun t360 => (if (t360 != t351) = true then (some false) else ((laws_toGrammar.f k l0_0).bind fun t361 => ((laws_eqGrammar.f k t352 t361).bind fun t364 => (if t364 = true then ((laws_toGrammar.f k l1_0).bind fun t365 => ((laws_eqGrammar.f k t356 t365).bind fun t368 => (if t368 = true then (some true) else (some false)))) else (some false))))))))))))))
theorem laws_FnExactSameGrammar.mono : ∀ a0 a1 k, LeO (laws_FnExactSameGrammar.f k a0 a1) (laws_FnExactSameGrammar.f (k + 1) a0 a1) := by
  intro a0 a1 k
  unfold laws_FnExactSameGrammar.f
  repeat' first
      | (with_reducible exact impl_SameGrammar.mono _ _ _)
      | (with_reducible exact laws_eqGrammar.mono _ _ _)
      | (with_reducible exact laws_szGrammar.mono _ _ _)
      | (with_reducible exact laws_toGrammar.mono _ _)
      | (with_reducible exact spec_SameGrammar.mono _ _ _)
      | (with_reducible exact LeO.refl _)
      | (with_reducible exact LeO.none _)
      | (with_reducible refine LeO.ite ?_ ?_)
      | (with_reducible refine LeO.bind ?_ (fun _ => ?_))
      | exact impl_SameGrammar.mono _ _ _
      | exact laws_eqGrammar.mono _ _ _
      | exact laws_szGrammar.mono _ _ _
      | exact laws_toGrammar.mono _ _
      | exact spec_SameGrammar.mono _ _ _
      | exact LeO.none _
      | refine LeO.ite ?_ ?_
      | refine LeO.bind ?_ (fun _ => ?_)
set_option maxHeartbeats 8000000 in
set_option maxRecDepth 100000 in
theorem laws_FnExactSameGrammar.calls (k : Nat) (A0_0 : Option Addr) (c0_0 : Nat) (l0_0 : List (S225)) (A1_0 : Option Addr) (c1_0 : Nat) (l1_0 : List (S225)) (r : Bool) (w : World) (hr0_0 : Kd.C k225 w A0_0 l0_0.length l0_0) (hc0_0 : l0_0.length ≤ c0_0) (hr1_0 : Kd.C k225 w A1_0 l1_0.length l1_0) (hc1_0 : l1_0.length ≤ c1_0) (h : laws_FnExactSameGrammar.f k l0_0 l1_0 = some r) :
    Calls Try.prog 11 #[.agg #[.slice A0_0 l0_0.length c0_0], .agg #[.slice A1_0 l1_0.length c1_0]] w fun e w' => e = .returned (.bool r) ∧ Below w.heap.size w w' := by
  have hu78 := Try.underlying78
  have hu83 := Try.underlying83
  have HR0_0 := Aside0.mk hr0_0
  have HC0_0 := Aside0.mk hc0_0
  clear hr0_0 hc0_0
  have HR1_0 := Aside0.mk hr1_0
  have HC1_0 := Aside0.mk hc1_0
  clear hr1_0 hc1_0
  have HB := Aside0.mk (Below.refl w.heap.size w)
  have H : ((laws_szGrammar.f k l0_0 1048576).bind fun t343 => (if t343 < 0 then (some true) else ((laws_szGrammar.f k l1_0 t343).bind fun t344 => (if t344 < 0 then (some true) else ((laws_toGrammar.f k l0_0).bind fun t345 => ((laws_toGrammar.f k l1_0).bind fun t348 => ((spec_SameGrammar.f k t345 t348).bind fun t351 => ((laws_toGrammar.f k l0_0).bind fun t352 => ((laws_toGrammar.f k l1_0).bind fun t356 => ((impl_SameGrammar.f k t352 t356).bind fun t360 => (if (t360 != t351) = true then (some false) else ((laws_toGrammar.f k l0_0).bind fun t361 => ((laws_eqGrammar.f k t352 t361).bind fun t364 => (if t364 = true then ((laws_toGrammar.f k l1_0).bind fun t365 => ((laws_eqGrammar.f k t356 t365).bind fun t368 => (if t368 = true then (some true) else (some false)))) else (some false))))))))))))))) = some r := h
  clear h
  replace H := Option.bind_eq_some_iff.mp H
  obtain ⟨t343, A30, H⟩ := H
  replace H : (if t343 < 0 then (some true) else ((laws_szGrammar.f k l1_0 t343).bind fun t344 => (if t344 < 0 then (some true) else ((laws_toGrammar.f k l0_0).bind fun t345 => ((laws_toGrammar.f k l1_0).bind fun t348 => ((spec_SameGrammar.f k t345 t348).bind fun t351 => ((laws_toGrammar.f k l0_0).bind fun t352 => ((laws_toGrammar.f k l1_0).bind fun t356 => ((impl_SameGrammar.f k t352 t356).bind fun t360 => (if (t360 != t351) = true then (some false) else ((laws_toGrammar.f k l0_0).bind fun t361 => ((laws_eqGrammar.f k t352 t361).bind fun t364 => (if t364 = true then ((laws_toGrammar.f k l1_0).bind fun t365 => ((laws_eqGrammar.f k t356 t365).bind fun t368 => (if t368 = true then (some true) else (some false)))) else (some false)))))))))))))) = some r := H
  have A3 := Aside0.mk A30
  clear A30
  by_cases c4 : t343 < 0
  · rw [if_pos c4] at H
    have c4b0 : decide (t343 < 0) = true := decide_eq_true c4
    clear c4
    obtain rfl := Option.some.inj H
    go_enter Try.func11, Try.ntmps11
    go_wp2_with (first | ((with_reducible refine gate_dst (N := 2) rfl ?_); refine box_event ?hg (N := 2) ?hd (cs := #[.slice A0_0 l0_0.length c0_0]) (t := 78) ?hr ?_; (case hd => rfl); (case hg => rfl); (case hr => first | (go_simp; done) | (go_simp; rfl)); intro gb341 hg w5 hbox hb; have n0_ := Aside0.mk (below_step bw hb); have n1_ := Aside0.mk (hbox); have n2_ := Aside0.mk ((bz bw hg : w.heap.size ≤ gb341)); have n3_ := Aside0.mk ((bz bw hg : w.heap.size ≤ gb341)); clear HB; have HB := n0_; have BK341 := n1_; have GW341 := n2_; have GE341 := n3_; clear n0_ n1_ n2_ n3_; clear hb hbox hg) | ((with_reducible refine gate_dst (N := 3) rfl ?_); refine box_event ?hg (N := 3) ?hd (cs := #[.slice A1_0 l1_0.length c1_0]) (t := 78) ?hr ?_; (case hd => rfl); (case hg => rfl); (case hr => first | (go_simp; done) | (go_simp; rfl)); intro gb342 hg w6 hbox hb; have n0_ := Aside0.mk (blk_below (g := gb341) (o := .cells #[.slice A0_0 l0_0.length c0_0] 78 (0, 0)) bx hb); have n1_ := Aside0.mk (below_step bw hb); have n2_ := Aside0.mk (hbox); have n3_ := Aside0.mk ((bz bw hg : w.heap.size ≤ gb342)); have n4_ := Aside0.mk ((bz bw hg : w.heap.size ≤ gb342)); have n5_ := Aside0.mk ((bl bx hg : gb341 ≠ gb342)); have n6_ := Aside0.mk ((bl' bx hg : gb342 ≠ gb341)); clear BK341; clear HB; have BK341 := n0_; have HB := n1_; have BK342 := n2_; have GW342 := n3_; have GE342 := n4_; have NB341_342 := n5_; have NB342_341 := n6_; clear n0_ n1_ n2_ n3_ n4_ n5_ n6_; clear hb hbox hg; have hnb7 := NB341_342.out; have hnc7 := NB342_341.out; obtain ⟨hcz8_0, hfz8_0⟩ := bc1 BK341.out) | ((with_reducible refine gate_callee (f := 45) rfl ?_); refine goesL_ (some 12) rfl rfl Try.func45 (by kernel_rfl) rfl #[.agg #[.slice A0_0 l0_0.length c0_0], .int .i64 1048576] rfl (by (try simp only [List.map_toArray, List.map_cons, List.map_nil]); first | done | rfl | (simp only [List.length_drop, List.length_take]; rfl)) ?_; (with_reducible refine (laws_szGrammar.calls k _ _ l0_0 1048576 t343 _ ?side1 ?side2 A3.out).mono ?_); (case side1 => exact kb); (case side2 => exact HC0_0.out); rintro e w9 ⟨rfl, hb⟩; refine ⟨_, rfl, ?_⟩; have n0_ := Aside0.mk (blk_below (g := gb341) (o := .cells #[.slice A0_0 l0_0.length c0_0] 78 (0, 0)) bx hb); have n1_ := Aside0.mk (blk_below (g := gb342) (o := .cells #[.slice A1_0 l1_0.length c1_0] 78 (0, 0)) bx hb); have n2_ := Aside0.mk (below_step bw hb); clear BK341; clear BK342; clear HB; have BK341 := n0_; have BK342 := n1_; have HB := n2_; clear n0_ n1_ n2_; (try clear hb); (try clear hb2); (try clear hk); (try clear hi)))
    go_ret
    exact ⟨by first | rfl | (simp [errW_none, errW_some] <;> rfl) | (simp [*, errW_none, errW_some] <;> rfl), by repeat (first | (with_reducible first | exact HB.out | apply below_alloc | apply pw_below_drewN | apply below_drew1 | refine below_set ?_ GE341.out | refine below_set ?_ GE342.out) | exact HB.out)⟩
  · rw [if_neg c4] at H
    have c4b0 : decide (t343 < 0) = false := decide_eq_false c4
    clear c4
    replace H := Option.bind_eq_some_iff.mp H
    obtain ⟨t344, A100, H⟩ := H
    replace H : (if t344 < 0 then (some true) else ((laws_toGrammar.f k l0_0).bind fun t345 => ((laws_toGrammar.f k l1_0).bind fun t348 => ((spec_SameGrammar.f k t345 t348).bind fun t351 => ((laws_toGrammar.f k l0_0).bind fun t352 => ((laws_toGrammar.f k l1_0).bind fun t356 => ((impl_SameGrammar.f k t352 t356).bind fun t360 => (if (t360 != t351) = true then (some false) else ((laws_toGrammar.f k l0_0).bind fun t361 => ((laws_eqGrammar.f k t352 t361).bind fun t364 => (if t364 = true then ((laws_toGrammar.f k l1_0).bind fun t365 => ((laws_eqGrammar.f k t356 t365).bind fun t368 => (if t368 = true then (some true) else (some false)))) else (some false)))))))))))) = some r := H
    have A10 := Aside0.mk A100
    clear A100
    by_cases c11 : t344 < 0
    · rw [if_pos c11] at H
      have c11b0 : decide (t344 < 0) = true := decide_eq_true c11
      clear c11
      obtain rfl := Option.some.inj H
      go_enter Try.func11, Try.ntmps11
      go_wp2_with (first | ((with_reducible refine gate_dst (N := 2) rfl ?_); refine box_event ?hg (N := 2) ?hd (cs := #[.slice A0_0 l0_0.length c0_0]) (t := 78) ?hr ?_; (case hd => rfl); (case hg => rfl); (case hr => first | (go_simp; done) | (go_simp; rfl)); intro gb341 hg w12 hbox hb; have n0_ := Aside0.mk (below_step bw hb); have n1_ := Aside0.mk (hbox); have n2_ := Aside0.mk ((bz bw hg : w.heap.size ≤ gb341)); have n3_ := Aside0.mk ((bz bw hg : w.heap.size ≤ gb341)); clear HB; have HB := n0_; have BK341 := n1_; have GW341 := n2_; have GE341 := n3_; clear n0_ n1_ n2_ n3_; clear hb hbox hg) | ((with_reducible refine gate_dst (N := 3) rfl ?_); refine box_event ?hg (N := 3) ?hd (cs := #[.slice A1_0 l1_0.length c1_0]) (t := 78) ?hr ?_; (case hd => rfl); (case hg => rfl); (case hr => first | (go_simp; done) | (go_simp; rfl)); intro gb342 hg w13 hbox hb; have n0_ := Aside0.mk (blk_below (g := gb341) (o := .cells #[.slice A0_0 l0_0.length c0_0] 78 (0, 0)) bx hb); have n1_ := Aside0.mk (below_step bw hb); have n2_ := Aside0.mk (hbox); have n3_ := Aside0.mk ((bz bw hg : w.heap.size ≤ gb342)); have n4_ := Aside0.mk ((bz bw hg : w.heap.size ≤ gb342)); have n5_ := Aside0.mk ((bl bx hg : gb341 ≠ gb342)); have n6_ := Aside0.mk ((bl' bx hg : gb342 ≠ gb341)); clear BK341; clear HB; have BK341 := n0_; have HB := n1_; have BK342 := n2_; have GW342 := n3_; have GE342 := n4_; have NB341_342 := n5_; have NB342_341 := n6_; clear n0_ n1_ n2_ n3_ n4_ n5_ n6_; clear hb hbox hg; have hnb14 := NB341_342.out; have hnc14 := NB342_341.out; obtain ⟨hcz15_0, hfz15_0⟩ := bc1 BK341.out) | ((with_reducible refine gate_callee (f := 45) rfl ?_); refine goesL_ (some 12) rfl rfl Try.func45 (by kernel_rfl) rfl #[.agg #[.slice A0_0 l0_0.length c0_0], .int .i64 1048576] rfl (by (try simp only [List.map_toArray, List.map_cons, List.map_nil]); first | done | rfl | (simp only [List.length_drop, List.length_take]; rfl)) ?_; (with_reducible refine (laws_szGrammar.calls k _ _ l0_0 1048576 t343 _ ?side1 ?side2 A3.out).mono ?_); (case side1 => exact kb); (case side2 => exact HC0_0.out); rintro e w16 ⟨rfl, hb⟩; refine ⟨_, rfl, ?_⟩; have n0_ := Aside0.mk (blk_below (g := gb341) (o := .cells #[.slice A0_0 l0_0.length c0_0] 78 (0, 0)) bx hb); have n1_ := Aside0.mk (blk_below (g := gb342) (o := .cells #[.slice A1_0 l1_0.length c1_0] 78 (0, 0)) bx hb); have n2_ := Aside0.mk (below_step bw hb); clear BK341; clear BK342; clear HB; have BK341 := n0_; have BK342 := n1_; have HB := n2_; clear n0_ n1_ n2_; (try clear hb); (try clear hb2); (try clear hk); (try clear hi); obtain ⟨hcz17_0, hfz17_0⟩ := bc1 BK342.out) | ((with_reducible refine gate_callee (f := 45) rfl ?_); refine goesL_ (some 17) rfl rfl Try.func45 (by kernel_rfl) rfl #[.agg #[.slice A1_0 l1_0.length c1_0], .int .i64 t343] rfl (by (try simp only [List.map_toArray, List.map_cons, List.map_nil]); first | done | rfl | (simp only [List.length_drop, List.length_take]; rfl)) ?_; (with_reducible refine (laws_szGrammar.calls k _ _ l1_0 t343 t344 _ ?side1 ?side2 A10.out).mono ?_); (case side1 => exact kb); (case side2 => exact HC1_0.out); rintro e w18 ⟨rfl, hb⟩; refine ⟨_, rfl, ?_⟩; have n0_ := Aside0.mk (blk_below (g := gb341) (o := .cells #[.slice A0_0 l0_0.length c0_0] 78 (0, 0)) bx hb); have n1_ := Aside0.mk (blk_below (g := gb342) (o := .cells #[.slice A1_0 l1_0.length c1_0] 78 (0, 0)) bx hb); have n2_ := Aside0.mk (below_step bw hb); clear BK341; clear BK342; clear HB; have BK341 := n0_; have BK342 := n1_; have HB := n2_; clear n0_ n1_ n2_; (try clear hb); (try clear hb2); (try clear hk); (try clear hi)))
      go_ret
      exact ⟨by first | rfl | (simp [errW_none, errW_some] <;> rfl) | (simp [*, errW_none, errW_some] <;> rfl), by repeat (first | (with_reducible first | exact HB.out | apply below_alloc | apply pw_below_drewN | apply below_drew1 | refine below_set ?_ GE341.out | refine below_set ?_ GE342.out) | exact HB.out)⟩
    · rw [if_neg c11] at H
      have c11b0 : decide (t344 < 0) = false := decide_eq_false c11
      clear c11
      replace H := Option.bind_eq_some_iff.mp H
      obtain ⟨t345, A190, H⟩ := H
      replace H : ((laws_toGrammar.f k l1_0).bind fun t348 => ((spec_SameGrammar.f k t345 t348).bind fun t351 => ((laws_toGrammar.f k l0_0).bind fun t352 => ((laws_toGrammar.f k l1_0).bind fun t356 => ((impl_SameGrammar.f k t352 t356).bind fun t360 => (if (t360 != t351) = true then (some false) else ((laws_toGrammar.f k l0_0).bind fun t361 => ((laws_eqGrammar.f k t352 t361).bind fun t364 => (if t364 = true then ((laws_toGrammar.f k l1_0).bind fun t365 => ((laws_eqGrammar.f k t356 t365).bind fun t368 => (if t368 = true then (some true) else (some false)))) else (some false)))))))))) = some r := H
      have A19 := Aside0.mk A190
      clear A190
      replace H := Option.bind_eq_some_iff.mp H
      obtain ⟨t348, A200, H⟩ := H
      replace H : ((spec_SameGrammar.f k t345 t348).bind fun t351 => ((laws_toGrammar.f k l0_0).bind fun t352 => ((laws_toGrammar.f k l1_0).bind fun t356 => ((impl_SameGrammar.f k t352 t356).bind fun t360 => (if (t360 != t351) = true then (some false) else ((laws_toGrammar.f k l0_0).bind fun t361 => ((laws_eqGrammar.f k t352 t361).bind fun t364 => (if t364 = true then ((laws_toGrammar.f k l1_0).bind fun t365 => ((laws_eqGrammar.f k t356 t365).bind fun t368 => (if t368 = true then (some true) else (some false)))) else (some false))))))))) = some r := H
      have A20 := Aside0.mk A200
      clear A200
      replace H := Option.bind_eq_some_iff.mp H
      obtain ⟨t351, A210, H⟩ := H
      replace H : ((laws_toGrammar.f k l0_0).bind fun t352 => ((laws_toGrammar.f k l1_0).bind fun t356 => ((impl_SameGrammar.f k t352 t356).bind fun t360 => (if (t360 != t351) = true then (some false) else ((laws_toGrammar.f k l0_0).bind fun t361 => ((laws_eqGrammar.f k t352 t361).bind fun t364 => (if t364 = true then ((laws_toGrammar.f k l1_0).bind fun t365 => ((laws_eqGrammar.f k t356 t365).bind fun t368 => (if t368 = true then (some true) else (some false)))) else (some false)))))))) = some r := H
      have A21 := Aside0.mk A210
      clear A210
      replace H := Option.bind_eq_some_iff.mp H
      obtain ⟨t352, A220, H⟩ := H
      replace H : ((laws_toGrammar.f k l1_0).bind fun t356 => ((impl_SameGrammar.f k t352 t356).bind fun t360 => (if (t360 != t351) = true then (some false) else ((laws_toGrammar.f k l0_0).bind fun t361 => ((laws_eqGrammar.f k t352 t361).bind fun t364 => (if t364 = true then ((laws_toGrammar.f k l1_0).bind fun t365 => ((laws_eqGrammar.f k t356 t365).bind fun t368 => (if t368 = true then (some true) else (some false)))) else (some false))))))) = some r := H
      have A22 := Aside0.mk A220
      clear A220
      replace H := Option.bind_eq_some_iff.mp H
      obtain ⟨t356, A230, H⟩ := H
      replace H : ((impl_SameGrammar.f k t352 t356).bind fun t360 => (if (t360 != t351) = true then (some false) else ((laws_toGrammar.f k l0_0).bind fun t361 => ((laws_eqGrammar.f k t352 t361).bind fun t364 => (if t364 = true then ((laws_toGrammar.f k l1_0).bind fun t365 => ((laws_eqGrammar.f k t356 t365).bind fun t368 => (if t368 = true then (some true) else (some false)))) else (some false)))))) = some r := H
      have A23 := Aside0.mk A230
      clear A230
      replace H := Option.bind_eq_some_iff.mp H
      obtain ⟨t360, A240, H⟩ := H
      replace H : (if (t360 != t351) = true then (some false) else ((laws_toGrammar.f k l0_0).bind fun t361 => ((laws_eqGrammar.f k t352 t361).bind fun t364 => (if t364 = true then ((laws_toGrammar.f k l1_0).bind fun t365 => ((laws_eqGrammar.f k t356 t365).bind fun t368 => (if t368 = true then (some true) else (some false)))) else (some false))))) = some r := H
      have A24 := Aside0.mk A240
      clear A240
      by_cases c25 : (t360 != t351) = true
      · rw [if_pos c25] at H
        have c25b0 : (t360 != t351) = true := c25
        (try (have c25b1 : decide (t360 = t351) = false := by simpa using c25))
        (try (have c25b2 : (t360 == t351) = false := by simpa using c25))
        (try (have c25b3 : ¬ (t360 = t351) := by simpa using c25))
        clear c25
        obtain rfl := Option.some.inj H
        go_enter Try.func11, Try.ntmps11
        try go_wp2_with (first | ((with_reducible refine gate_dst (N := 2) rfl ?_); refine box_event ?hg (N := 2) ?hd (cs := #[.slice A0_0 l0_0.length c0_0]) (t := 78) ?hr ?_; (case hd => rfl); (case hg => rfl); (case hr => first | (go_simp; done) | (go_simp; rfl)); intro gb341 hg w26 hbox hb; have n0_ := Aside0.mk (below_step bw hb); have n1_ := Aside0.mk (hbox); have n2_ := Aside0.mk ((bz bw hg : w.heap.size ≤ gb341)); have n3_ := Aside0.mk ((bz bw hg : w.heap.size ≤ gb341)); clear HB; have HB := n0_; have BK341 := n1_; have GW341 := n2_; have GE341 := n3_; clear n0_ n1_ n2_ n3_; clear hb hbox hg) | ((with_reducible refine gate_dst (N := 3) rfl ?_); refine box_event ?hg (N := 3) ?hd (cs := #[.slice A1_0 l1_0.length c1_0]) (t := 78) ?hr ?_; (case hd => rfl); (case hg => rfl); (case hr => first | (go_simp; done) | (go_simp; rfl)); intro gb342 hg w27 hbox hb; have n0_ := Aside0.mk (blk_below (g := gb341) (o := .cells #[.slice A0_0 l0_0.length c0_0] 78 (0, 0)) bx hb); have n1_ := Aside0.mk (below_step bw hb); have n2_ := Aside0.mk (hbox); have n3_ := Aside0.mk ((bz bw hg : w.heap.size ≤ gb342)); have n4_ := Aside0.mk ((bz bw hg : w.heap.size ≤ gb342)); have n5_ := Aside0.mk ((bl bx hg : gb341 ≠ gb342)); have n6_ := Aside0.mk ((bl' bx hg : gb342 ≠ gb341)); clear BK341; clear HB; have BK341 := n0_; have HB := n1_; have BK342 := n2_; have GW342 := n3_; have GE342 := n4_; have NB341_342 := n5_; have NB342_341 := n6_; clear n0_ n1_ n2_ n3_ n4_ n5_ n6_; clear hb hbox hg; have hnb28 := NB341_342.out; have hnc28 := NB342_341.out; obtain ⟨hcz29_0, hfz29_0⟩ := bc1 BK341.out) | ((with_reducible refine gate_callee (f := 45) rfl ?_); refine goesL_ (some 12) rfl rfl Try.func45 (by kernel_rfl) rfl #[.agg #[.slice A0_0 l0_0.length c0_0], .int .i64 1048576] rfl (by (try simp only [List.map_toArray, List.map_cons, List.map_nil]); first | done | rfl | (simp only [List.length_drop, List.length_take]; rfl)) ?_; (with_reducible refine (laws_szGrammar.calls k _ _ l0_0 1048576 t343 _ ?side1 ?side2 A3.out).mono ?_); (case side1 => exact kb); (case side2 => exact HC0_0.out); rintro e w30 ⟨rfl, hb⟩; refine ⟨_, rfl, ?_⟩; have n0_ := Aside0.mk (blk_below (g := gb341) (o := .cells #[.slice A0_0 l0_0.length c0_0] 78 (0, 0)) bx hb); have n1_ := Aside0.mk (blk_below (g := gb342) (o := .cells #[.slice A1_0 l1_0.length c1_0] 78 (0, 0)) bx hb); have n2_ := Aside0.mk (below_step bw hb); clear BK341; clear BK342; clear HB; have BK341 := n0_; have BK342 := n1_; have HB := n2_; clear n0_ n1_ n2_; (try clear hb); (try clear hb2); (try clear hk); (try clear hi); obtain ⟨hcz31_0, hfz31_0⟩ := bc1 BK342.out) | ((with_reducible refine gate_callee (f := 45) rfl ?_); refine goesL_ (some 17) rfl rfl Try.func45 (by kernel_rfl) rfl #[.agg #[.slice A1_0 l1_0.length c1_0], .int .i64 t343] rfl (by (try simp only [List.map_toArray, List.map_cons, List.map_nil]); first | done | rfl | (simp only [List.length_drop, List.length_take]; rfl)) ?_; (with_reducible refine (laws_szGrammar.calls k _ _ l1_0 t343 t344 _ ?side1 ?side2 A10.out).mono ?_); (case side1 => exact kb); (case side2 => exact HC1_0.out); rintro e w32 ⟨rfl, hb⟩; refine ⟨_, rfl, ?_⟩; have n0_ := Aside0.mk (blk_below (g := gb341) (o := .cells #[.slice A0_0 l0_0.length c0_0] 78 (0, 0)) bx hb); have n1_ := Aside0.mk (blk_below (g := gb342) (o := .cells #[.slice A1_0 l1_0.length c1_0] 78 (0, 0)) bx hb); have n2_ := Aside0.mk (below_step bw hb); clear BK341; clear BK342; clear HB; have BK341 := n0_; have BK342 := n1_; have HB := n2_; clear n0_ n1_ n2_; (try clear hb); (try clear hb2); (try clear hk); (try clear hi)))
        have n0_ := Aside0.mk (blk_drew BK341.out)
        have n1_ := Aside0.mk (blk_drew BK342.out)
        have n2_ := Aside0.mk (below_drew1 HB.out)
        clear BK341
        clear BK342
        clear HB
        have BK341 := n0_
        have BK342 := n1_
        have HB := n2_
        clear n0_ n1_ n2_
        refine start_ (n := 6) (S := fun w' => w'.cell? ⟨gb341, 0, none⟩ = some (.slice A0_0 l0_0.length c0_0) ∧ w'.cell? ⟨gb342, 0, none⟩ = some (.slice A1_0 l1_0.length c1_0)) (ds := []) #[false, false, false, false, false, false] (by kernel_rfl) rfl rfl ⟨(blk_cell BK341.out 0).trans rfl, (blk_cell BK342.out 0).trans rfl⟩ (fun hHeld => ?_)
        generalize w32.drew = w33 at BK341 BK342 HB hHeld ⊢
        refine take_ (i := 0) (N := some 20) (v := ?_) (a' := ?_) #[true, false, false, false, false, false] rfl rfl (by kernel_rfl) (fun _ _ _ h => h) (Or.inl ⟨by rfl, ?_⟩) hHeld ?_ ?_
        rotate_left
        · rintro w' ⟨s0, s1⟩
          go_simp
          with_reducible rfl
        rotate_left
        · simp only [Act.put, List.setIfInBounds_toArray, List.set_cons_zero, List.set_cons_succ, i64_w, i32_w]
          rfl
        refine take_ (i := 2) (N := some 22) (v := ?_) (a' := ?_) #[true, false, true, false, false, false] rfl rfl (by kernel_rfl) (fun _ _ _ h => h) (Or.inl ⟨by rfl, ?_⟩) hHeld ?_ ?_
        rotate_left
        · rintro w' ⟨s0, s1⟩
          go_simp
          with_reducible rfl
        rotate_left
        · simp only [Act.put, List.setIfInBounds_toArray, List.set_cons_zero, List.set_cons_succ, i64_w, i32_w]
          rfl
        refine one_ (i := 1) (N := some 21) #[true, true, true, false, false, false] rfl rfl (by kernel_rfl) (by decide) (fun K hK => ?_)
        refine goes_ Try.func47 (by kernel_rfl) rfl #[.agg #[.slice A0_0 l0_0.length c0_0]] (by rfl) rfl rfl (by (try simp only [List.map_toArray, List.map_cons, List.map_nil]); first | done | rfl | (simp only [List.length_drop, List.length_take]; rfl)) ?_
        with_reducible refine (laws_toGrammar.calls k _ _ l0_0 t345 _ ?side1 ?side2 A19.out).mono ?_
        (case side1 => exact kb)
        (case side2 => exact HC0_0.out)
        rintro e w34 ⟨v346, rfl, ho0, hb⟩
        refine ⟨_, rfl, ?_⟩
        have n0_ := Aside0.mk (Kd.R_lower ho0 (below_size bw))
        have n1_ := Aside0.mk (blk_below (g := gb341) (o := .cells #[.slice A0_0 l0_0.length c0_0] 78 (0, 0)) bx hb)
        have n2_ := Aside0.mk (blk_below (g := gb342) (o := .cells #[.slice A1_0 l1_0.length c1_0] 78 (0, 0)) bx hb)
        have n3_ := Aside0.mk (below_step bw hb)
        clear BK341
        clear BK342
        clear HB
        have HO347 := n0_
        have BK341 := n1_
        have BK342 := n2_
        have HB := n3_
        clear n0_ n1_ n2_ n3_
        (try clear hb)
        (try clear hb2)
        (try clear hk)
        (try clear hi)
        (try clear ho0)
        refine hK.out _ _ ⟨(blk_cell BK341.out 0).trans rfl, (blk_cell BK342.out 0).trans rfl⟩ (fun hHeld => ?_)
        clear hK K
        refine norm_ (a' := ?_) ?_ ?_
        rotate_left
        · show Act.put _ (some 21) _ = _
          simp only [Act.put, List.setIfInBounds_toArray, List.set_cons_zero, List.set_cons_succ, i64_w, i32_w]
          rfl
        refine one_ (i := 3) (N := some 23) #[true, true, true, true, false, false] rfl rfl (by kernel_rfl) (by decide) (fun K hK => ?_)
        refine goes_ Try.func47 (by kernel_rfl) rfl #[.agg #[.slice A1_0 l1_0.length c1_0]] (by rfl) rfl rfl (by (try simp only [List.map_toArray, List.map_cons, List.map_nil]); first | done | rfl | (simp only [List.length_drop, List.length_take]; rfl)) ?_
        with_reducible refine (laws_toGrammar.calls k _ _ l1_0 t348 _ ?side1 ?side2 A20.out).mono ?_
        (case side1 => exact kb)
        (case side2 => exact HC1_0.out)
        rintro e w35 ⟨v349, rfl, ho0, hb⟩
        refine ⟨_, rfl, ?_⟩
        have n0_ := Aside0.mk (Kd.R_elder' (by (with_reducible repeat (first | apply Kd.R_alloc | apply Kd.R_drewN | apply Kd.R_drew)); exact HO347.out) (Kd.R_base ho0) hb)
        have n1_ := Aside0.mk (Kd.R_lower (Kd.R_new' ho0 (Kd.R_lt (by (with_reducible repeat (first | apply Kd.R_alloc | apply Kd.R_drewN | apply Kd.R_drew)); exact HO347.out))) (below_size bw))
        have n2_ := Aside0.mk (blk_below (g := gb341) (o := .cells #[.slice A0_0 l0_0.length c0_0] 78 (0, 0)) bx hb)
        have n3_ := Aside0.mk (blk_below (g := gb342) (o := .cells #[.slice A1_0 l1_0.length c1_0] 78 (0, 0)) bx hb)
        have n4_ := Aside0.mk (below_step bw hb)
        clear HO347
        clear BK341
        clear BK342
        clear HB
        have HO347 := n0_
        have HO350 := n1_
        have BK341 := n2_
        have BK342 := n3_
        have HB := n4_
        clear n0_ n1_ n2_ n3_ n4_
        (try clear hb)
        (try clear hb2)
        (try clear hk)
        (try clear hi)
        (try clear ho0)
        obtain ⟨Ao36, co36, eo36⟩ := Kd.R_slice HO347.out
        (first | subst eo36 | (injection eo36 with f1_ f2_ f3_; have f4_ := f1_.symm; have f5_ := f3_.symm; clear f1_ f2_ f3_; subst f4_; subst f5_))
        obtain ⟨Ao37, co37, eo37⟩ := Kd.R_slice HO350.out
        (first | subst eo37 | (injection eo37 with f1_ f2_ f3_; have f4_ := f1_.symm; have f5_ := f3_.symm; clear f1_ f2_ f3_; subst f4_; subst f5_))
        refine hK.out _ _ ⟨(blk_cell BK341.out 0).trans rfl, (blk_cell BK342.out 0).trans rfl⟩ (fun hHeld => ?_)
        clear hK K
        refine norm_ (a' := ?_) ?_ ?_
        rotate_left
        · show Act.put _ (some 23) _ = _
          simp only [Act.put, List.setIfInBounds_toArray, List.set_cons_zero, List.set_cons_succ, i64_w, i32_w]
          rfl
        refine one_ (i := 4) (N := some 24) #[true, true, true, true, true, false] rfl rfl (by kernel_rfl) (by decide) (fun K hK => ?_)
        refine goes_ Try.func46 (by kernel_rfl) rfl #[.agg #[.slice Ao36 t345.length co36], .agg #[.slice Ao37 t348.length co37]] (by rfl) rfl rfl (by (try simp only [List.map_toArray, List.map_cons, List.map_nil]); first | done | rfl | (simp only [List.length_drop, List.length_take]; rfl)) ?_
        with_reducible refine (spec_SameGrammar.calls k _ _ t345 _ _ t348 t351 _ ?side1 ?side2 ?side3 ?side4 A21.out).mono ?_
        (case side1 => repeat (first | exact (Kd.R_reads' HO347.out).2.2 | (with_reducible refine Kd.C_alloc ?_ _) | (with_reducible refine Kd.C_drewN ?_ _) | (with_reducible refine Kd.C_drew ?_)))
        (case side2 => exact (Kd.R_reads' HO347.out).2.1)
        (case side3 => repeat (first | exact (Kd.R_reads' HO350.out).2.2 | (with_reducible refine Kd.C_alloc ?_ _) | (with_reducible refine Kd.C_drewN ?_ _) | (with_reducible refine Kd.C_drew ?_)))
        (case side4 => exact (Kd.R_reads' HO350.out).2.1)
        rintro e w38 ⟨rfl, hb⟩
        refine ⟨_, rfl, ?_⟩
        have n0_ := Aside0.mk (Kd.R_below (by (with_reducible repeat (first | apply Kd.R_alloc | apply Kd.R_drewN | apply Kd.R_drew)); exact HO347.out) hb)
        have n1_ := Aside0.mk (Kd.R_below (by (with_reducible repeat (first | apply Kd.R_alloc | apply Kd.R_drewN | apply Kd.R_drew)); exact HO350.out) hb)
        have n2_ := Aside0.mk (blk_below (g := gb341) (o := .cells #[.slice A0_0 l0_0.length c0_0] 78 (0, 0)) bx hb)
        have n3_ := Aside0.mk (blk_below (g := gb342) (o := .cells #[.slice A1_0 l1_0.length c1_0] 78 (0, 0)) bx hb)
        have n4_ := Aside0.mk (below_step bw hb)
        clear HO347
        clear HO350
        clear BK341
        clear BK342
        clear HB
        have HO347 := n0_
        have HO350 := n1_
        have BK341 := n2_
        have BK342 := n3_
        have HB := n4_
        clear n0_ n1_ n2_ n3_ n4_
        (try clear hb)
        (try clear hb2)
        (try clear hk)
        (try clear hi)
        refine hK.out _ _ ⟨(blk_cell BK341.out 0).trans rfl, (blk_cell BK342.out 0).trans rfl⟩ (fun hHeld => ?_)
        clear hK K
        refine norm_ (a' := ?_) ?_ ?_
        rotate_left
        · show Act.put _ (some 24) _ = _
          simp only [Act.put, List.setIfInBounds_toArray, List.set_cons_zero, List.set_cons_succ, i64_w, i32_w]
          rfl
        refine pure_ (i := 5) (N := some 6) (v := ?_) (a' := ?_) #[true, true, true, true, true, true] rfl rfl (by kernel_rfl) (fun _ _ _ h => h) (Or.inl ⟨by rfl, ?_⟩) ?_ ?_
        rotate_left
        · intro w'
          go_simp
          with_reducible rfl
        rotate_left
        · simp only [Act.put, List.setIfInBounds_toArray, List.set_cons_zero, List.set_cons_succ, i64_w, i32_w]
          rfl
        refine done_ (by kernel_rfl) ?_
        obtain ⟨hcz39_0, hfz39_0⟩ := bc1 BK341.out
        try go_wp2_with (first | ((with_reducible refine gate_callee (f := 47) rfl ?_); refine goesL_ (some 26) rfl rfl Try.func47 (by kernel_rfl) rfl #[.agg #[.slice A0_0 l0_0.length c0_0]] rfl (by (try simp only [List.map_toArray, List.map_cons, List.map_nil]); first | done | rfl | (simp only [List.length_drop, List.length_take]; rfl)) ?_; (with_reducible refine (laws_toGrammar.calls k _ _ l0_0 t352 _ ?side1 ?side2 A22.out).mono ?_); (case side1 => exact kb); (case side2 => exact HC0_0.out); rintro e w40 ⟨v353, rfl, ho0, hb⟩; refine ⟨_, rfl, ?_⟩; have n0_ := Aside0.mk (Kd.R_elder' (by (with_reducible repeat (first | apply Kd.R_alloc | apply Kd.R_drewN | apply Kd.R_drew)); exact HO347.out) (Kd.R_base ho0) hb); have n1_ := Aside0.mk (Kd.R_elder' (by (with_reducible repeat (first | apply Kd.R_alloc | apply Kd.R_drewN | apply Kd.R_drew)); exact HO350.out) (Kd.R_base ho0) hb); have n2_ := Aside0.mk (Kd.R_lower (Kd.R_new' (Kd.R_new' ho0 (Kd.R_lt (by (with_reducible repeat (first | apply Kd.R_alloc | apply Kd.R_drewN | apply Kd.R_drew)); exact HO347.out))) (Kd.R_lt (by (with_reducible repeat (first | apply Kd.R_alloc | apply Kd.R_drewN | apply Kd.R_drew)); exact HO350.out))) (below_size bw)); have n3_ := Aside0.mk (blk_below (g := gb341) (o := .cells #[.slice A0_0 l0_0.length c0_0] 78 (0, 0)) bx hb); have n4_ := Aside0.mk (blk_below (g := gb342) (o := .cells #[.slice A1_0 l1_0.length c1_0] 78 (0, 0)) bx hb); have n5_ := Aside0.mk (below_step bw hb); clear HO347; clear HO350; clear BK341; clear BK342; clear HB; have HO347 := n0_; have HO350 := n1_; have HO354 := n2_; have BK341 := n3_; have BK342 := n4_; have HB := n5_; clear n0_ n1_ n2_ n3_ n4_ n5_; (try clear hb); (try clear hb2); (try clear hk); (try clear hi); (try clear ho0)) | ((with_reducible refine gate_dst (N := 7) rfl ?_); refine box_event ?hg (N := 7) ?hd (cs := #[.slice none 0 0]) (t := 83) ?hr ?_; (case hd => rfl); (case hg => rfl); (case hr => first | (go_simp; done) | (go_simp; rfl)); intro gb355 hg w41 hbox hb; have n0_ := Aside0.mk (Kd.R_below (by (with_reducible repeat (first | apply Kd.R_alloc | apply Kd.R_drewN | apply Kd.R_drew)); exact HO347.out) hb); have n1_ := Aside0.mk (Kd.R_below (by (with_reducible repeat (first | apply Kd.R_alloc | apply Kd.R_drewN | apply Kd.R_drew)); exact HO350.out) hb); have n2_ := Aside0.mk (Kd.R_below (by (with_reducible repeat (first | apply Kd.R_alloc | apply Kd.R_drewN | apply Kd.R_drew)); exact HO354.out) hb); have n3_ := Aside0.mk (blk_below (g := gb341) (o := .cells #[.slice A0_0 l0_0.length c0_0] 78 (0, 0)) bx hb); have n4_ := Aside0.mk (blk_below (g := gb342) (o := .cells #[.slice A1_0 l1_0.length c1_0] 78 (0, 0)) bx hb); have n5_ := Aside0.mk (below_step bw hb); have n6_ := Aside0.mk (hbox); have n7_ := Aside0.mk ((bz bw hg : w.heap.size ≤ gb355)); have n8_ := Aside0.mk ((bz bw hg : w.heap.size ≤ gb355)); have n9_ := Aside0.mk ((bl bx hg : gb341 ≠ gb355)); have n10_ := Aside0.mk ((bl' bx hg : gb355 ≠ gb341)); have n11_ := Aside0.mk ((bl bx hg : gb342 ≠ gb355)); have n12_ := Aside0.mk ((bl' bx hg : gb355 ≠ gb342)); clear HO347; clear HO350; clear HO354; clear BK341; clear BK342; clear HB; have HO347 := n0_; have HO350 := n1_; have HO354 := n2_; have BK341 := n3_; have BK342 := n4_; have HB := n5_; have BK355 := n6_; have GW355 := n7_; have GE355 := n8_; have NB341_355 := n9_; have NB355_341 := n10_; have NB342_355 := n11_; have NB355_342 := n12_; clear n0_ n1_ n2_ n3_ n4_ n5_ n6_ n7_ n8_ n9_ n10_ n11_ n12_; clear hb hbox hg; obtain ⟨Ao42, co42, eo42⟩ := Kd.R_slice HO354.out; subst eo42; have hnb43 := NB355_341.out; have hnc43 := NB341_355.out; have hnb44 := NB355_342.out; have hnc44 := NB342_355.out; obtain ⟨hcz45_0, hfz45_0⟩ := bc1 BK355.out; obtain ⟨hcz46_0, hfz46_0⟩ := bc1 BK342.out) | ((with_reducible refine gate_callee (f := 47) rfl ?_); refine goesL_ (some 28) rfl rfl Try.func47 (by kernel_rfl) rfl #[.agg #[.slice A1_0 l1_0.length c1_0]] rfl (by (try simp only [List.map_toArray, List.map_cons, List.map_nil]); first | done | rfl | (simp only [List.length_drop, List.length_take]; rfl)) ?_; (with_reducible refine (laws_toGrammar.calls k _ _ l1_0 t356 _ ?side1 ?side2 A23.out).mono ?_); (case side1 => exact Kd.C_below HR1_0.out bw); (case side2 => exact HC1_0.out); rintro e w47 ⟨v357, rfl, ho0, hb⟩; refine ⟨_, rfl, ?_⟩; have n0_ := Aside0.mk (Kd.R_elder' (by (with_reducible repeat (first | apply Kd.R_alloc | apply Kd.R_drewN | apply Kd.R_drew)); exact (Kd.R_mono (Kd.R_far (p := ⟨gb355, 0, none⟩) (Kd.R_types HO347.out BK355.out (by decide)) (fun _ hk => hk.2) (.slice Ao42 t352.length co42)) (fun _ h_ => h_.1))) (Kd.R_base ho0) hb); have n1_ := Aside0.mk (Kd.R_elder' (by (with_reducible repeat (first | apply Kd.R_alloc | apply Kd.R_drewN | apply Kd.R_drew)); exact (Kd.R_mono (Kd.R_far (p := ⟨gb355, 0, none⟩) (Kd.R_types HO350.out BK355.out (by decide)) (fun _ hk => hk.2) (.slice Ao42 t352.length co42)) (fun _ h_ => h_.1))) (Kd.R_base ho0) hb); have n2_ := Aside0.mk (Kd.R_elder' (by (with_reducible repeat (first | apply Kd.R_alloc | apply Kd.R_drewN | apply Kd.R_drew)); exact (Kd.R_mono (Kd.R_far (p := ⟨gb355, 0, none⟩) (Kd.R_types HO354.out BK355.out (by decide)) (fun _ hk => hk.2) (.slice Ao42 t352.length co42)) (fun _ h_ => h_.1))) (Kd.R_base ho0) hb); have n3_ := Aside0.mk (Kd.R_lower (Kd.R_new' (Kd.R_new' (Kd.R_new' ho0 (Kd.R_lt (by (with_reducible repeat (first | apply Kd.R_alloc | apply Kd.R_drewN | apply Kd.R_drew)); exact (Kd.R_mono (Kd.R_far (p := ⟨gb355, 0, none⟩) (Kd.R_types HO347.out BK355.out (by decide)) (fun _ hk => hk.2) (.slice Ao42 t352.length co42)) (fun _ h_ => h_.1))))) (Kd.R_lt (by (with_reducible repeat (first | apply Kd.R_alloc | apply Kd.R_drewN | apply Kd.R_drew)); exact (Kd.R_mono (Kd.R_far (p := ⟨gb355, 0, none⟩) (Kd.R_types HO350.out BK355.out (by decide)) (fun _ hk => hk.2) (.slice Ao42 t352.length co42)) (fun _ h_ => h_.1))))) (Kd.R_lt (by (with_reducible repeat (first | apply Kd.R_alloc | apply Kd.R_drewN | apply Kd.R_drew)); exact (Kd.R_mono (Kd.R_far (p := ⟨gb355, 0, none⟩) (Kd.R_types HO354.out BK355.out (by decide)) (fun _ hk => hk.2) (.slice Ao42 t352.length co42)) (fun _ h_ => h_.1))))) (below_size bw)); have n4_ := Aside0.mk (blk_below (g := gb341) (o := .cells #[.slice A0_0 l0_0.length c0_0] 78 (0, 0)) bx hb); have n5_ := Aside0.mk (blk_below (g := gb342) (o := .cells #[.slice A1_0 l1_0.length c1_0] 78 (0, 0)) bx hb); have n6_ := Aside0.mk (blk_below (g := gb355) (o := .cells #[.slice Ao42 t352.length co42] 83 (0, 0)) bx hb); have n7_ := Aside0.mk (below_step bw hb); clear HO347; clear HO350; clear HO354; clear BK341; clear BK342; clear BK355; clear HB; have HO347 := n0_; have HO350 := n1_; have HO354 := n2_; have HO358 := n3_; have BK341 := n4_; have BK342 := n5_; have BK355 := n6_; have HB := n7_; clear n0_ n1_ n2_ n3_ n4_ n5_ n6_ n7_; (try clear hb); (try clear hb2); (try clear hk); (try clear hi); (try clear ho0)) | ((with_reducible refine gate_dst (N := 8) rfl ?_); refine box_event ?hg (N := 8) ?hd (cs := #[.slice none 0 0]) (t := 83) ?hr ?_; (case hd => rfl); (case hg => rfl); (case hr => first | (go_simp; done) | (go_simp; rfl)); intro gb359 hg w48 hbox hb; have n0_ := Aside0.mk (Kd.R_below (by (with_reducible repeat (first | apply Kd.R_alloc | apply Kd.R_drewN | apply Kd.R_drew)); exact HO347.out) hb); have n1_ := Aside0.mk (Kd.R_below (by (with_reducible repeat (first | apply Kd.R_alloc | apply Kd.R_drewN | apply Kd.R_drew)); exact HO350.out) hb); have n2_ := Aside0.mk (Kd.R_below (by (with_reducible repeat (first | apply Kd.R_alloc | apply Kd.R_drewN | apply Kd.R_drew)); exact HO354.out) hb); have n3_ := Aside0.mk (Kd.R_below (by (with_reducible repeat (first | apply Kd.R_alloc | apply Kd.R_drewN | apply Kd.R_drew)); exact HO358.out) hb); have n4_ := Aside0.mk (blk_below (g := gb341) (o := .cells #[.slice A0_0 l0_0.length c0_0] 78 (0, 0)) bx hb); have n5_ := Aside0.mk (blk_below (g := gb342) (o := .cells #[.slice A1_0 l1_0.length c1_0] 78 (0, 0)) bx hb); have n6_ := Aside0.mk (blk_below (g := gb355) (o := .cells #[.slice Ao42 t352.length co42] 83 (0, 0)) bx hb); have n7_ := Aside0.mk (below_step bw hb); have n8_ := Aside0.mk (hbox); have n9_ := Aside0.mk ((bz bw hg : w.heap.size ≤ gb359)); have n10_ := Aside0.mk ((bz bw hg : w.heap.size ≤ gb359)); have n11_ := Aside0.mk ((bl bx hg : gb341 ≠ gb359)); have n12_ := Aside0.mk ((bl' bx hg : gb359 ≠ gb341)); have n13_ := Aside0.mk ((bl bx hg : gb342 ≠ gb359)); have n14_ := Aside0.mk ((bl' bx hg : gb359 ≠ gb342)); have n15_ := Aside0.mk ((bl bx hg : gb355 ≠ gb359)); have n16_ := Aside0.mk ((bl' bx hg : gb359 ≠ gb355)); clear HO347; clear HO350; clear HO354; clear HO358; clear BK341; clear BK342; clear BK355; clear HB; have HO347 := n0_; have HO350 := n1_; have HO354 := n2_; have HO358 := n3_; have BK341 := n4_; have BK342 := n5_; have BK355 := n6_; have HB := n7_; have BK359 := n8_; have GW359 := n9_; have GE359 := n10_; have NB341_359 := n11_; have NB359_341 := n12_; have NB342_359 := n13_; have NB359_342 := n14_; have NB355_359 := n15_; have NB359_355 := n16_; clear n0_ n1_ n2_ n3_ n4_ n5_ n6_ n7_ n8_ n9_ n10_ n11_ n12_ n13_ n14_ n15_ n16_; clear hb hbox hg; obtain ⟨Ao49, co49, eo49⟩ := Kd.R_slice HO358.out; subst eo49; have hnb50 := NB359_341.out; have hnc50 := NB341_359.out; have hnb51 := NB359_342.out; have hnc51 := NB342_359.out; have hnb52 := NB359_355.out; have hnc52 := NB355_359.out; obtain ⟨hcz53_0, hfz53_0⟩ := bc1 BK359.out; obtain ⟨hcz54_0, hfz54_0⟩ := bc1 BK355.out) | ((with_reducible refine gate_callee (f := 48) rfl ?_); refine goesL_ (some 31) rfl rfl Try.func48 (by kernel_rfl) rfl #[.agg #[.slice Ao42 t352.length co42], .agg #[.slice Ao49 t356.length co49]] rfl (by (try simp only [List.map_toArray, List.map_cons, List.map_nil]); first | done | rfl | (simp only [List.length_drop, List.length_take]; rfl)) ?_; (with_reducible refine (impl_SameGrammar.calls k _ _ t352 _ _ t356 t360 _ ?side1 ?side2 ?side3 ?side4 A24.out).mono ?_); (case side1 => refine (Kd.R_reads' (e := 162) (base := w.heap.size) (ok := fun k_ => (((True ∧ some k_ ≠ (.slice Ao36 t345.length co36 : Value).ownBlock) ∧ some k_ ≠ (.slice Ao37 t348.length co37 : Value).ownBlock) ∧ some k_ ≠ (.slice Ao49 t356.length co49 : Value).ownBlock)) (n := t352.length) (c := co42) ?_).2.2; exact (by (with_reducible repeat (first | apply Kd.R_alloc | apply Kd.R_drewN | apply Kd.R_drew)); exact (Kd.R_mono (Kd.R_far (p := ⟨gb359, 0, none⟩) (Kd.R_types HO354.out BK359.out (by decide)) (fun _ hk => hk.2) (.slice Ao49 t356.length co49)) (fun _ h_ => h_.1)))); (case side2 => exact (Kd.R_reads' HO354.out).2.1); (case side3 => refine (Kd.R_reads' (e := 162) (base := w.heap.size) (ok := fun k_ => (((True ∧ some k_ ≠ (.slice Ao36 t345.length co36 : Value).ownBlock) ∧ some k_ ≠ (.slice Ao37 t348.length co37 : Value).ownBlock) ∧ some k_ ≠ (.slice Ao42 t352.length co42 : Value).ownBlock)) (n := t356.length) (c := co49) ?_).2.2; exact (by (with_reducible repeat (first | apply Kd.R_alloc | apply Kd.R_drewN | apply Kd.R_drew)); exact (Kd.R_mono (Kd.R_far (p := ⟨gb359, 0, none⟩) (Kd.R_types HO358.out BK359.out (by decide)) (fun _ hk => hk.2) (.slice Ao49 t356.length co49)) (fun _ h_ => h_.1)))); (case side4 => exact (Kd.R_reads' HO358.out).2.1); rintro e w55 ⟨rfl, hb⟩; refine ⟨_, rfl, ?_⟩; have n0_ := Aside0.mk (Kd.R_below (by (with_reducible repeat (first | apply Kd.R_alloc | apply Kd.R_drewN | apply Kd.R_drew)); exact (Kd.R_mono (Kd.R_far (p := ⟨gb359, 0, none⟩) (Kd.R_types HO347.out BK359.out (by decide)) (fun _ hk => hk.2) (.slice Ao49 t356.length co49)) (fun _ h_ => h_.1))) hb); have n1_ := Aside0.mk (Kd.R_below (by (with_reducible repeat (first | apply Kd.R_alloc | apply Kd.R_drewN | apply Kd.R_drew)); exact (Kd.R_mono (Kd.R_far (p := ⟨gb359, 0, none⟩) (Kd.R_types HO350.out BK359.out (by decide)) (fun _ hk => hk.2) (.slice Ao49 t356.length co49)) (fun _ h_ => h_.1))) hb); have n2_ := Aside0.mk (Kd.R_below (by (with_reducible repeat (first | apply Kd.R_alloc | apply Kd.R_drewN | apply Kd.R_drew)); exact (Kd.R_mono (Kd.R_far (p := ⟨gb359, 0, none⟩) (Kd.R_types HO354.out BK359.out (by decide)) (fun _ hk => hk.2) (.slice Ao49 t356.length co49)) (fun _ h_ => h_.1))) hb); have n3_ := Aside0.mk (Kd.R_below (by (with_reducible repeat (first | apply Kd.R_alloc | apply Kd.R_drewN | apply Kd.R_drew)); exact (Kd.R_mono (Kd.R_far (p := ⟨gb359, 0, none⟩) (Kd.R_types HO358.out BK359.out (by decide)) (fun _ hk => hk.2) (.slice Ao49 t356.length co49)) (fun _ h_ => h_.1))) hb); have n4_ := Aside0.mk (blk_below (g := gb341) (o := .cells #[.slice A0_0 l0_0.length c0_0] 78 (0, 0)) bx hb); have n5_ := Aside0.mk (blk_below (g := gb342) (o := .cells #[.slice A1_0 l1_0.length c1_0] 78 (0, 0)) bx hb); have n6_ := Aside0.mk (blk_below (g := gb355) (o := .cells #[.slice Ao42 t352.length co42] 83 (0, 0)) bx hb); have n7_ := Aside0.mk (blk_below (g := gb359) (o := .cells #[.slice Ao49 t356.length co49] 83 (0, 0)) bx hb); have n8_ := Aside0.mk (below_step bw hb); clear HO347; clear HO350; clear HO354; clear HO358; clear BK341; clear BK342; clear BK355; clear BK359; clear HB; have HO347 := n0_; have HO350 := n1_; have HO354 := n2_; have HO358 := n3_; have BK341 := n4_; have BK342 := n5_; have BK355 := n6_; have BK359 := n7_; have HB := n8_; clear n0_ n1_ n2_ n3_ n4_ n5_ n6_ n7_ n8_; (try clear hb); (try clear hb2); (try clear hk); (try clear hi)))
        go_ret
        exact ⟨by first | rfl | (simp [errW_none, errW_some] <;> rfl) | (simp [*, errW_none, errW_some] <;> rfl), by repeat (first | (with_reducible first | exact HB.out | apply below_alloc | apply pw_below_drewN | apply below_drew1 | refine below_set ?_ GE341.out | refine below_set ?_ GE342.out | refine below_set ?_ GE355.out | refine below_set ?_ GE359.out) | exact HB.out)⟩
      · rw [if_neg c25] at H
        have c25b0 : (t360 != t351) = false := by simpa using c25
        (try (have c25b1 : decide (t360 = t351) = true := by simpa using c25))
        (try (have c25b2 : (t360 == t351) = true := by simpa using c25))
        clear c25
        replace H := Option.bind_eq_some_iff.mp H
        obtain ⟨t361, A560, H⟩ := H
        replace H : ((laws_eqGrammar.f k t352 t361).bind fun t364 => (if t364 = true then ((laws_toGrammar.f k l1_0).bind fun t365 => ((laws_eqGrammar.f k t356 t365).bind fun t368 => (if t368 = true then (some true) else (some false)))) else (some false))) = some r := H
        have A56 := Aside0.mk A560
        clear A560
        replace H := Option.bind_eq_some_iff.mp H
        obtain ⟨t364, A570, H⟩ := H
        replace H : (if t364 = true then ((laws_toGrammar.f k l1_0).bind fun t365 => ((laws_eqGrammar.f k t356 t365).bind fun t368 => (if t368 = true then (some true) else (some false)))) else (some false)) = some r := H
        have A57 := Aside0.mk A570
        clear A570
        by_cases c58 : t364 = true
        · subst c58
          have H1 : ((laws_toGrammar.f k l1_0).bind fun t365 => ((laws_eqGrammar.f k t356 t365).bind fun t368 => (if t368 = true then (some true) else (some false)))) = some r := by rw [if_pos rfl] at H; exact H
          clear H
          have H := H1
          clear H1
          replace H := Option.bind_eq_some_iff.mp H
          obtain ⟨t365, A590, H⟩ := H
          replace H : ((laws_eqGrammar.f k t356 t365).bind fun t368 => (if t368 = true then (some true) else (some false))) = some r := H
          have A59 := Aside0.mk A590
          clear A590
          replace H := Option.bind_eq_some_iff.mp H
          obtain ⟨t368, A600, H⟩ := H
          replace H : (if t368 = true then (some true) else (some false)) = some r := H
          have A60 := Aside0.mk A600
          clear A600
          by_cases c61 : t368 = true
          · subst c61
            have H1 : (some true) = some r := by rw [if_pos rfl] at H; exact H
            clear H
            have H := H1
            clear H1
            obtain rfl := Option.some.inj H
            go_enter Try.func11, Try.ntmps11
            try go_wp2_with (first | ((with_reducible refine gate_dst (N := 2) rfl ?_); refine box_event ?hg (N := 2) ?hd (cs := #[.slice A0_0 l0_0.length c0_0]) (t := 78) ?hr ?_; (case hd => rfl); (case hg => rfl); (case hr => first | (go_simp; done) | (go_simp; rfl)); intro gb341 hg w62 hbox hb; have n0_ := Aside0.mk (below_step bw hb); have n1_ := Aside0.mk (hbox); have n2_ := Aside0.mk ((bz bw hg : w.heap.size ≤ gb341)); have n3_ := Aside0.mk ((bz bw hg : w.heap.size ≤ gb341)); clear HB; have HB := n0_; have BK341 := n1_; have GW341 := n2_; have GE341 := n3_; clear n0_ n1_ n2_ n3_; clear hb hbox hg) | ((with_reducible refine gate_dst (N := 3) rfl ?_); refine box_event ?hg (N := 3) ?hd (cs := #[.slice A1_0 l1_0.length c1_0]) (t := 78) ?hr ?_; (case hd => rfl); (case hg => rfl); (case hr => first | (go_simp; done) | (go_simp; rfl)); intro gb342 hg w63 hbox hb; have n0_ := Aside0.mk (blk_below (g := gb341) (o := .cells #[.slice A0_0 l0_0.length c0_0] 78 (0, 0)) bx hb); have n1_ := Aside0.mk (below_step bw hb); have n2_ := Aside0.mk (hbox); have n3_ := Aside0.mk ((bz bw hg : w.heap.size ≤ gb342)); have n4_ := Aside0.mk ((bz bw hg : w.heap.size ≤ gb342)); have n5_ := Aside0.mk ((bl bx hg : gb341 ≠ gb342)); have n6_ := Aside0.mk ((bl' bx hg : gb342 ≠ gb341)); clear BK341; clear HB; have BK341 := n0_; have HB := n1_; have BK342 := n2_; have GW342 := n3_; have GE342 := n4_; have NB341_342 := n5_; have NB342_341 := n6_; clear n0_ n1_ n2_ n3_ n4_ n5_ n6_; clear hb hbox hg; have hnb64 := NB341_342.out; have hnc64 := NB342_341.out; obtain ⟨hcz65_0, hfz65_0⟩ := bc1 BK341.out) | ((with_reducible refine gate_callee (f := 45) rfl ?_); refine goesL_ (some 12) rfl rfl Try.func45 (by kernel_rfl) rfl #[.agg #[.slice A0_0 l0_0.length c0_0], .int .i64 1048576] rfl (by (try simp only [List.map_toArray, List.map_cons, List.map_nil]); first | done | rfl | (simp only [List.length_drop, List.length_take]; rfl)) ?_; (with_reducible refine (laws_szGrammar.calls k _ _ l0_0 1048576 t343 _ ?side1 ?side2 A3.out).mono ?_); (case side1 => exact kb); (case side2 => exact HC0_0.out); rintro e w66 ⟨rfl, hb⟩; refine ⟨_, rfl, ?_⟩; have n0_ := Aside0.mk (blk_below (g := gb341) (o := .cells #[.slice A0_0 l0_0.length c0_0] 78 (0, 0)) bx hb); have n1_ := Aside0.mk (blk_below (g := gb342) (o := .cells #[.slice A1_0 l1_0.length c1_0] 78 (0, 0)) bx hb); have n2_ := Aside0.mk (below_step bw hb); clear BK341; clear BK342; clear HB; have BK341 := n0_; have BK342 := n1_; have HB := n2_; clear n0_ n1_ n2_; (try clear hb); (try clear hb2); (try clear hk); (try clear hi); obtain ⟨hcz67_0, hfz67_0⟩ := bc1 BK342.out) | ((with_reducible refine gate_callee (f := 45) rfl ?_); refine goesL_ (some 17) rfl rfl Try.func45 (by kernel_rfl) rfl #[.agg #[.slice A1_0 l1_0.length c1_0], .int .i64 t343] rfl (by (try simp only [List.map_toArray, List.map_cons, List.map_nil]); first | done | rfl | (simp only [List.length_drop, List.length_take]; rfl)) ?_; (with_reducible refine (laws_szGrammar.calls k _ _ l1_0 t343 t344 _ ?side1 ?side2 A10.out).mono ?_); (case side1 => exact kb); (case side2 => exact HC1_0.out); rintro e w68 ⟨rfl, hb⟩; refine ⟨_, rfl, ?_⟩; have n0_ := Aside0.mk (blk_below (g := gb341) (o := .cells #[.slice A0_0 l0_0.length c0_0] 78 (0, 0)) bx hb); have n1_ := Aside0.mk (blk_below (g := gb342) (o := .cells #[.slice A1_0 l1_0.length c1_0] 78 (0, 0)) bx hb); have n2_ := Aside0.mk (below_step bw hb); clear BK341; clear BK342; clear HB; have BK341 := n0_; have BK342 := n1_; have HB := n2_; clear n0_ n1_ n2_; (try clear hb); (try clear hb2); (try clear hk); (try clear hi)))
            have n0_ := Aside0.mk (blk_drew BK341.out)
            have n1_ := Aside0.mk (blk_drew BK342.out)
            have n2_ := Aside0.mk (below_drew1 HB.out)
            clear BK341
            clear BK342
            clear HB
            have BK341 := n0_
            have BK342 := n1_
            have HB := n2_
            clear n0_ n1_ n2_
            refine start_ (n := 6) (S := fun w' => w'.cell? ⟨gb341, 0, none⟩ = some (.slice A0_0 l0_0.length c0_0) ∧ w'.cell? ⟨gb342, 0, none⟩ = some (.slice A1_0 l1_0.length c1_0)) (ds := []) #[false, false, false, false, false, false] (by kernel_rfl) rfl rfl ⟨(blk_cell BK341.out 0).trans rfl, (blk_cell BK342.out 0).trans rfl⟩ (fun hHeld => ?_)
            generalize w68.drew = w69 at BK341 BK342 HB hHeld ⊢
            refine take_ (i := 0) (N := some 20) (v := ?_) (a' := ?_) #[true, false, false, false, false, false] rfl rfl (by kernel_rfl) (fun _ _ _ h => h) (Or.inl ⟨by rfl, ?_⟩) hHeld ?_ ?_
            rotate_left
            · rintro w' ⟨s0, s1⟩
              go_simp
              with_reducible rfl
            rotate_left
            · simp only [Act.put, List.setIfInBounds_toArray, List.set_cons_zero, List.set_cons_succ, i64_w, i32_w]
              rfl
            refine take_ (i := 2) (N := some 22) (v := ?_) (a' := ?_) #[true, false, true, false, false, false] rfl rfl (by kernel_rfl) (fun _ _ _ h => h) (Or.inl ⟨by rfl, ?_⟩) hHeld ?_ ?_
            rotate_left
            · rintro w' ⟨s0, s1⟩
              go_simp
              with_reducible rfl
            rotate_left
            · simp only [Act.put, List.setIfInBounds_toArray, List.set_cons_zero, List.set_cons_succ, i64_w, i32_w]
              rfl
            refine one_ (i := 1) (N := some 21) #[true, true, true, false, false, false] rfl rfl (by kernel_rfl) (by decide) (fun K hK => ?_)
            refine goes_ Try.func47 (by kernel_rfl) rfl #[.agg #[.slice A0_0 l0_0.length c0_0]] (by rfl) rfl rfl (by (try simp only [List.map_toArray, List.map_cons, List.map_nil]); first | done | rfl | (simp only [List.length_drop, List.length_take]; rfl)) ?_
            with_reducible refine (laws_toGrammar.calls k _ _ l0_0 t345 _ ?side1 ?side2 A19.out).mono ?_
            (case side1 => exact kb)
            (case side2 => exact HC0_0.out)
            rintro e w70 ⟨v346, rfl, ho0, hb⟩
            refine ⟨_, rfl, ?_⟩
            have n0_ := Aside0.mk (Kd.R_lower ho0 (below_size bw))
            have n1_ := Aside0.mk (blk_below (g := gb341) (o := .cells #[.slice A0_0 l0_0.length c0_0] 78 (0, 0)) bx hb)
            have n2_ := Aside0.mk (blk_below (g := gb342) (o := .cells #[.slice A1_0 l1_0.length c1_0] 78 (0, 0)) bx hb)
            have n3_ := Aside0.mk (below_step bw hb)
            clear BK341
            clear BK342
            clear HB
            have HO347 := n0_
            have BK341 := n1_
            have BK342 := n2_
            have HB := n3_
            clear n0_ n1_ n2_ n3_
            (try clear hb)
            (try clear hb2)
            (try clear hk)
            (try clear hi)
            (try clear ho0)
            refine hK.out _ _ ⟨(blk_cell BK341.out 0).trans rfl, (blk_cell BK342.out 0).trans rfl⟩ (fun hHeld => ?_)
            clear hK K
            refine norm_ (a' := ?_) ?_ ?_
            rotate_left
            · show Act.put _ (some 21) _ = _
              simp only [Act.put, List.setIfInBounds_toArray, List.set_cons_zero, List.set_cons_succ, i64_w, i32_w]
              rfl
            refine one_ (i := 3) (N := some 23) #[true, true, true, true, false, false] rfl rfl (by kernel_rfl) (by decide) (fun K hK => ?_)
            refine goes_ Try.func47 (by kernel_rfl) rfl #[.agg #[.slice A1_0 l1_0.length c1_0]] (by rfl) rfl rfl (by (try simp only [List.map_toArray, List.map_cons, List.map_nil]); first | done | rfl | (simp only [List.length_drop, List.length_take]; rfl)) ?_
            with_reducible refine (laws_toGrammar.calls k _ _ l1_0 t348 _ ?side1 ?side2 A20.out).mono ?_
            (case side1 => exact kb)
            (case side2 => exact HC1_0.out)
            rintro e w71 ⟨v349, rfl, ho0, hb⟩
            refine ⟨_, rfl, ?_⟩
            have n0_ := Aside0.mk (Kd.R_elder' (by (with_reducible repeat (first | apply Kd.R_alloc | apply Kd.R_drewN | apply Kd.R_drew)); exact HO347.out) (Kd.R_base ho0) hb)
            have n1_ := Aside0.mk (Kd.R_lower (Kd.R_new' ho0 (Kd.R_lt (by (with_reducible repeat (first | apply Kd.R_alloc | apply Kd.R_drewN | apply Kd.R_drew)); exact HO347.out))) (below_size bw))
            have n2_ := Aside0.mk (blk_below (g := gb341) (o := .cells #[.slice A0_0 l0_0.length c0_0] 78 (0, 0)) bx hb)
            have n3_ := Aside0.mk (blk_below (g := gb342) (o := .cells #[.slice A1_0 l1_0.length c1_0] 78 (0, 0)) bx hb)
            have n4_ := Aside0.mk (below_step bw hb)
            clear HO347
            clear BK341
            clear BK342
            clear HB
            have HO347 := n0_
            have HO350 := n1_
            have BK341 := n2_
            have BK342 := n3_
            have HB := n4_
            clear n0_ n1_ n2_ n3_ n4_
            (try clear hb)
            (try clear hb2)
            (try clear hk)
            (try clear hi)
            (try clear ho0)
            obtain ⟨Ao72, co72, eo72⟩ := Kd.R_slice HO347.out
            (first | subst eo72 | (injection eo72 with f1_ f2_ f3_; have f4_ := f1_.symm; have f5_ := f3_.symm; clear f1_ f2_ f3_; subst f4_; subst f5_))
            obtain ⟨Ao73, co73, eo73⟩ := Kd.R_slice HO350.out
            (first | subst eo73 | (injection eo73 with f1_ f2_ f3_; have f4_ := f1_.symm; have f5_ := f3_.symm; clear f1_ f2_ f3_; subst f4_; subst f5_))
            refine hK.out _ _ ⟨(blk_cell BK341.out 0).trans rfl, (blk_cell BK342.out 0).trans rfl⟩ (fun hHeld => ?_)
            clear hK K
            refine norm_ (a' := ?_) ?_ ?_
            rotate_left
            · show Act.put _ (some 23) _ = _
              simp only [Act.put, List.setIfInBounds_toArray, List.set_cons_zero, List.set_cons_succ, i64_w, i32_w]
              rfl
            refine one_ (i := 4) (N := some 24) #[true, true, true, true, true, false] rfl rfl (by kernel_rfl) (by decide) (fun K hK => ?_)
            refine goes_ Try.func46 (by kernel_rfl) rfl #[.agg #[.slice Ao72 t345.length co72], .agg #[.slice Ao73 t348.length co73]] (by rfl) rfl rfl (by (try simp only [List.map_toArray, List.map_cons, List.map_nil]); first | done | rfl | (simp only [List.length_drop, List.length_take]; rfl)) ?_
            with_reducible refine (spec_SameGrammar.calls k _ _ t345 _ _ t348 t351 _ ?side1 ?side2 ?side3 ?side4 A21.out).mono ?_
            (case side1 => repeat (first | exact (Kd.R_reads' HO347.out).2.2 | (with_reducible refine Kd.C_alloc ?_ _) | (with_reducible refine Kd.C_drewN ?_ _) | (with_reducible refine Kd.C_drew ?_)))
            (case side2 => exact (Kd.R_reads' HO347.out).2.1)
            (case side3 => repeat (first | exact (Kd.R_reads' HO350.out).2.2 | (with_reducible refine Kd.C_alloc ?_ _) | (with_reducible refine Kd.C_drewN ?_ _) | (with_reducible refine Kd.C_drew ?_)))
            (case side4 => exact (Kd.R_reads' HO350.out).2.1)
            rintro e w74 ⟨rfl, hb⟩
            refine ⟨_, rfl, ?_⟩
            have n0_ := Aside0.mk (Kd.R_below (by (with_reducible repeat (first | apply Kd.R_alloc | apply Kd.R_drewN | apply Kd.R_drew)); exact HO347.out) hb)
            have n1_ := Aside0.mk (Kd.R_below (by (with_reducible repeat (first | apply Kd.R_alloc | apply Kd.R_drewN | apply Kd.R_drew)); exact HO350.out) hb)
            have n2_ := Aside0.mk (blk_below (g := gb341) (o := .cells #[.slice A0_0 l0_0.length c0_0] 78 (0, 0)) bx hb)
            have n3_ := Aside0.mk (blk_below (g := gb342) (o := .cells #[.slice A1_0 l1_0.length c1_0] 78 (0, 0)) bx hb)
            have n4_ := Aside0.mk (below_step bw hb)
            clear HO347
            clear HO350
            clear BK341
            clear BK342
            clear HB
            have HO347 := n0_
            have HO350 := n1_
            have BK341 := n2_
            have BK342 := n3_
            have HB := n4_
            clear n0_ n1_ n2_ n3_ n4_
            (try clear hb)
            (try clear hb2)
            (try clear hk)
            (try clear hi)
            refine hK.out _ _ ⟨(blk_cell BK341.out 0).trans rfl, (blk_cell BK342.out 0).trans rfl⟩ (fun hHeld => ?_)
            clear hK K
            refine norm_ (a' := ?_) ?_ ?_
            rotate_left
            · show Act.put _ (some 24) _ = _
              simp only [Act.put, List.setIfInBounds_toArray, List.set_cons_zero, List.set_cons_succ, i64_w, i32_w]
              rfl
            refine pure_ (i := 5) (N := some 6) (v := ?_) (a' := ?_) #[true, true, true, true, true, true] rfl rfl (by kernel_rfl) (fun _ _ _ h => h) (Or.inl ⟨by rfl, ?_⟩) ?_ ?_
            rotate_left
            · intro w'
              go_simp
              with_reducible rfl
            rotate_left
            · simp only [Act.put, List.setIfInBounds_toArray, List.set_cons_zero, List.set_cons_succ, i64_w, i32_w]
              rfl
            refine done_ (by kernel_rfl) ?_
            obtain ⟨hcz75_0, hfz75_0⟩ := bc1 BK341.out
            try go_wp2_with (first | ((with_reducible refine gate_callee (f := 47) rfl ?_); refine goesL_ (some 26) rfl rfl Try.func47 (by kernel_rfl) rfl #[.agg #[.slice A0_0 l0_0.length c0_0]] rfl (by (try simp only [List.map_toArray, List.map_cons, List.map_nil]); first | done | rfl | (simp only [List.length_drop, List.length_take]; rfl)) ?_; (with_reducible refine (laws_toGrammar.calls k _ _ l0_0 t352 _ ?side1 ?side2 A22.out).mono ?_); (case side1 => exact kb); (case side2 => exact HC0_0.out); rintro e w76 ⟨v353, rfl, ho0, hb⟩; refine ⟨_, rfl, ?_⟩; have n0_ := Aside0.mk (Kd.R_elder' (by (with_reducible repeat (first | apply Kd.R_alloc | apply Kd.R_drewN | apply Kd.R_drew)); exact HO347.out) (Kd.R_base ho0) hb); have n1_ := Aside0.mk (Kd.R_elder' (by (with_reducible repeat (first | apply Kd.R_alloc | apply Kd.R_drewN | apply Kd.R_drew)); exact HO350.out) (Kd.R_base ho0) hb); have n2_ := Aside0.mk (Kd.R_lower (Kd.R_new' (Kd.R_new' ho0 (Kd.R_lt (by (with_reducible repeat (first | apply Kd.R_alloc | apply Kd.R_drewN | apply Kd.R_drew)); exact HO347.out))) (Kd.R_lt (by (with_reducible repeat (first | apply Kd.R_alloc | apply Kd.R_drewN | apply Kd.R_drew)); exact HO350.out))) (below_size bw)); have n3_ := Aside0.mk (blk_below (g := gb341) (o := .cells #[.slice A0_0 l0_0.length c0_0] 78 (0, 0)) bx hb); have n4_ := Aside0.mk (blk_below (g := gb342) (o := .cells #[.slice A1_0 l1_0.length c1_0] 78 (0, 0)) bx hb); have n5_ := Aside0.mk (below_step bw hb); clear HO347; clear HO350; clear BK341; clear BK342; clear HB; have HO347 := n0_; have HO350 := n1_; have HO354 := n2_; have BK341 := n3_; have BK342 := n4_; have HB := n5_; clear n0_ n1_ n2_ n3_ n4_ n5_; (try clear hb); (try clear hb2); (try clear hk); (try clear hi); (try clear ho0)) | ((with_reducible refine gate_dst (N := 7) rfl ?_); refine box_event ?hg (N := 7) ?hd (cs := #[.slice none 0 0]) (t := 83) ?hr ?_; (case hd => rfl); (case hg => rfl); (case hr => first | (go_simp; done) | (go_simp; rfl)); intro gb355 hg w77 hbox hb; have n0_ := Aside0.mk (Kd.R_below (by (with_reducible repeat (first | apply Kd.R_alloc | apply Kd.R_drewN | apply Kd.R_drew)); exact HO347.out) hb); have n1_ := Aside0.mk (Kd.R_below (by (with_reducible repeat (first | apply Kd.R_alloc | apply Kd.R_drewN | apply Kd.R_drew)); exact HO350.out) hb); have n2_ := Aside0.mk (Kd.R_below (by (with_reducible repeat (first | apply Kd.R_alloc | apply Kd.R_drewN | apply Kd.R_drew)); exact HO354.out) hb); have n3_ := Aside0.mk (blk_below (g := gb341) (o := .cells #[.slice A0_0 l0_0.length c0_0] 78 (0, 0)) bx hb); have n4_ := Aside0.mk (blk_below (g := gb342) (o := .cells #[.slice A1_0 l1_0.length c1_0] 78 (0, 0)) bx hb); have n5_ := Aside0.mk (below_step bw hb); have n6_ := Aside0.mk (hbox); have n7_ := Aside0.mk ((bz bw hg : w.heap.size ≤ gb355)); have n8_ := Aside0.mk ((bz bw hg : w.heap.size ≤ gb355)); have n9_ := Aside0.mk ((bl bx hg : gb341 ≠ gb355)); have n10_ := Aside0.mk ((bl' bx hg : gb355 ≠ gb341)); have n11_ := Aside0.mk ((bl bx hg : gb342 ≠ gb355)); have n12_ := Aside0.mk ((bl' bx hg : gb355 ≠ gb342)); clear HO347; clear HO350; clear HO354; clear BK341; clear BK342; clear HB; have HO347 := n0_; have HO350 := n1_; have HO354 := n2_; have BK341 := n3_; have BK342 := n4_; have HB := n5_; have BK355 := n6_; have GW355 := n7_; have GE355 := n8_; have NB341_355 := n9_; have NB355_341 := n10_; have NB342_355 := n11_; have NB355_342 := n12_; clear n0_ n1_ n2_ n3_ n4_ n5_ n6_ n7_ n8_ n9_ n10_ n11_ n12_; clear hb hbox hg; obtain ⟨Ao78, co78, eo78⟩ := Kd.R_slice HO354.out; subst eo78; have hnb79 := NB355_341.out; have hnc79 := NB341_355.out; have hnb80 := NB355_342.out; have hnc80 := NB342_355.out; obtain ⟨hcz81_0, hfz81_0⟩ := bc1 BK355.out; obtain ⟨hcz82_0, hfz82_0⟩ := bc1 BK342.out) | ((with_reducible refine gate_callee (f := 47) rfl ?_); refine goesL_ (some 28) rfl rfl Try.func47 (by kernel_rfl) rfl #[.agg #[.slice A1_0 l1_0.length c1_0]] rfl (by (try simp only [List.map_toArray, List.map_cons, List.map_nil]); first | done | rfl | (simp only [List.length_drop, List.length_take]; rfl)) ?_; (with_reducible refine (laws_toGrammar.calls k _ _ l1_0 t356 _ ?side1 ?side2 A23.out).mono ?_); (case side1 => exact Kd.C_below HR1_0.out bw); (case side2 => exact HC1_0.out); rintro e w83 ⟨v357, rfl, ho0, hb⟩; refine ⟨_, rfl, ?_⟩; have n0_ := Aside0.mk (Kd.R_elder' (by (with_reducible repeat (first | apply Kd.R_alloc | apply Kd.R_drewN | apply Kd.R_drew)); exact (Kd.R_mono (Kd.R_far (p := ⟨gb355, 0, none⟩) (Kd.R_types HO347.out BK355.out (by decide)) (fun _ hk => hk.2) (.slice Ao78 t352.length co78)) (fun _ h_ => h_.1))) (Kd.R_base ho0) hb); have n1_ := Aside0.mk (Kd.R_elder' (by (with_reducible repeat (first | apply Kd.R_alloc | apply Kd.R_drewN | apply Kd.R_drew)); exact (Kd.R_mono (Kd.R_far (p := ⟨gb355, 0, none⟩) (Kd.R_types HO350.out BK355.out (by decide)) (fun _ hk => hk.2) (.slice Ao78 t352.length co78)) (fun _ h_ => h_.1))) (Kd.R_base ho0) hb); have n2_ := Aside0.mk (Kd.R_elder' (by (with_reducible repeat (first | apply Kd.R_alloc | apply Kd.R_drewN | apply Kd.R_drew)); exact (Kd.R_mono (Kd.R_far (p := ⟨gb355, 0, none⟩) (Kd.R_types HO354.out BK355.out (by decide)) (fun _ hk => hk.2) (.slice Ao78 t352.length co78)) (fun _ h_ => h_.1))) (Kd.R_base ho0) hb); have n3_ := Aside0.mk (Kd.R_lower (Kd.R_new' (Kd.R_new' (Kd.R_new' ho0 (Kd.R_lt (by (with_reducible repeat (first | apply Kd.R_alloc | apply Kd.R_drewN | apply Kd.R_drew)); exact (Kd.R_mono (Kd.R_far (p := ⟨gb355, 0, none⟩) (Kd.R_types HO347.out BK355.out (by decide)) (fun _ hk => hk.2) (.slice Ao78 t352.length co78)) (fun _ h_ => h_.1))))) (Kd.R_lt (by (with_reducible repeat (first | apply Kd.R_alloc | apply Kd.R_drewN | apply Kd.R_drew)); exact (Kd.R_mono (Kd.R_far (p := ⟨gb355, 0, none⟩) (Kd.R_types HO350.out BK355.out (by decide)) (fun _ hk => hk.2) (.slice Ao78 t352.length co78)) (fun _ h_ => h_.1))))) (Kd.R_lt (by (with_reducible repeat (first | apply Kd.R_alloc | apply Kd.R_drewN | apply Kd.R_drew)); exact (Kd.R_mono (Kd.R_far (p := ⟨gb355, 0, none⟩) (Kd.R_types HO354.out BK355.out (by decide)) (fun _ hk => hk.2) (.slice Ao78 t352.length co78)) (fun _ h_ => h_.1))))) (below_size bw)); have n4_ := Aside0.mk (blk_below (g := gb341) (o := .cells #[.slice A0_0 l0_0.length c0_0] 78 (0, 0)) bx hb); have n5_ := Aside0.mk (blk_below (g := gb342) (o := .cells #[.slice A1_0 l1_0.length c1_0] 78 (0, 0)) bx hb); have n6_ := Aside0.mk (blk_below (g := gb355) (o := .cells #[.slice Ao78 t352.length co78] 83 (0, 0)) bx hb); have n7_ := Aside0.mk (below_step bw hb); clear HO347; clear HO350; clear HO354; clear BK341; clear BK342; clear BK355; clear HB; have HO347 := n0_; have HO350 := n1_; have HO354 := n2_; have HO358 := n3_; have BK341 := n4_; have BK342 := n5_; have BK355 := n6_; have HB := n7_; clear n0_ n1_ n2_ n3_ n4_ n5_ n6_ n7_; (try clear hb); (try clear hb2); (try clear hk); (try clear hi); (try clear ho0)) | ((with_reducible refine gate_dst (N := 8) rfl ?_); refine box_event ?hg (N := 8) ?hd (cs := #[.slice none 0 0]) (t := 83) ?hr ?_; (case hd => rfl); (case hg => rfl); (case hr => first | (go_simp; done) | (go_simp; rfl)); intro gb359 hg w84 hbox hb; have n0_ := Aside0.mk (Kd.R_below (by (with_reducible repeat (first | apply Kd.R_alloc | apply Kd.R_drewN | apply Kd.R_drew)); exact HO347.out) hb); have n1_ := Aside0.mk (Kd.R_below (by (with_reducible repeat (first | apply Kd.R_alloc | apply Kd.R_drewN | apply Kd.R_drew)); exact HO350.out) hb); have n2_ := Aside0.mk (Kd.R_below (by (with_reducible repeat (first | apply Kd.R_alloc | apply Kd.R_drewN | apply Kd.R_drew)); exact HO354.out) hb); have n3_ := Aside0.mk (Kd.R_below (by (with_reducible repeat (first | apply Kd.R_alloc | apply Kd.R_drewN | apply Kd.R_drew)); exact HO358.out) hb); have n4_ := Aside0.mk (blk_below (g := gb341) (o := .cells #[.slice A0_0 l0_0.length c0_0] 78 (0, 0)) bx hb); have n5_ := Aside0.mk (blk_below (g := gb342) (o := .cells #[.slice A1_0 l1_0.length c1_0] 78 (0, 0)) bx hb); have n6_ := Aside0.mk (blk_below (g := gb355) (o := .cells #[.slice Ao78 t352.length co78] 83 (0, 0)) bx hb); have n7_ := Aside0.mk (below_step bw hb); have n8_ := Aside0.mk (hbox); have n9_ := Aside0.mk ((bz bw hg : w.heap.size ≤ gb359)); have n10_ := Aside0.mk ((bz bw hg : w.heap.size ≤ gb359)); have n11_ := Aside0.mk ((bl bx hg : gb341 ≠ gb359)); have n12_ := Aside0.mk ((bl' bx hg : gb359 ≠ gb341)); have n13_ := Aside0.mk ((bl bx hg : gb342 ≠ gb359)); have n14_ := Aside0.mk ((bl' bx hg : gb359 ≠ gb342)); have n15_ := Aside0.mk ((bl bx hg : gb355 ≠ gb359)); have n16_ := Aside0.mk ((bl' bx hg : gb359 ≠ gb355)); clear HO347; clear HO350; clear HO354; clear HO358; clear BK341; clear BK342; clear BK355; clear HB; have HO347 := n0_; have HO350 := n1_; have HO354 := n2_; have HO358 := n3_; have BK341 := n4_; have BK342 := n5_; have BK355 := n6_; have HB := n7_; have BK359 := n8_; have GW359 := n9_; have GE359 := n10_; have NB341_359 := n11_; have NB359_341 := n12_; have NB342_359 := n13_; have NB359_342 := n14_; have NB355_359 := n15_; have NB359_355 := n16_; clear n0_ n1_ n2_ n3_ n4_ n5_ n6_ n7_ n8_ n9_ n10_ n11_ n12_ n13_ n14_ n15_ n16_; clear hb hbox hg; obtain ⟨Ao85, co85, eo85⟩ := Kd.R_slice HO358.out; subst eo85; have hnb86 := NB359_341.out; have hnc86 := NB341_359.out; have hnb87 := NB359_342.out; have hnc87 := NB342_359.out; have hnb88 := NB359_355.out; have hnc88 := NB355_359.out; obtain ⟨hcz89_0, hfz89_0⟩ := bc1 BK359.out; obtain ⟨hcz90_0, hfz90_0⟩ := bc1 BK355.out) | ((with_reducible refine gate_callee (f := 48) rfl ?_); refine goesL_ (some 31) rfl rfl Try.func48 (by kernel_rfl) rfl #[.agg #[.slice Ao78 t352.length co78], .agg #[.slice Ao85 t356.length co85]] rfl (by (try simp only [List.map_toArray, List.map_cons, List.map_nil]); first | done | rfl | (simp only [List.length_drop, List.length_take]; rfl)) ?_; (with_reducible refine (impl_SameGrammar.calls k _ _ t352 _ _ t356 t360 _ ?side1 ?side2 ?side3 ?side4 A24.out).mono ?_); (case side1 => refine (Kd.R_reads' (e := 162) (base := w.heap.size) (ok := fun k_ => (((True ∧ some k_ ≠ (.slice Ao72 t345.length co72 : Value).ownBlock) ∧ some k_ ≠ (.slice Ao73 t348.length co73 : Value).ownBlock) ∧ some k_ ≠ (.slice Ao85 t356.length co85 : Value).ownBlock)) (n := t352.length) (c := co78) ?_).2.2; exact (by (with_reducible repeat (first | apply Kd.R_alloc | apply Kd.R_drewN | apply Kd.R_drew)); exact (Kd.R_mono (Kd.R_far (p := ⟨gb359, 0, none⟩) (Kd.R_types HO354.out BK359.out (by decide)) (fun _ hk => hk.2) (.slice Ao85 t356.length co85)) (fun _ h_ => h_.1)))); (case side2 => exact (Kd.R_reads' HO354.out).2.1); (case side3 => refine (Kd.R_reads' (e := 162) (base := w.heap.size) (ok := fun k_ => (((True ∧ some k_ ≠ (.slice Ao72 t345.length co72 : Value).ownBlock) ∧ some k_ ≠ (.slice Ao73 t348.length co73 : Value).ownBlock) ∧ some k_ ≠ (.slice Ao78 t352.length co78 : Value).ownBlock)) (n := t356.length) (c := co85) ?_).2.2; exact (by (with_reducible repeat (first | apply Kd.R_alloc | apply Kd.R_drewN | apply Kd.R_drew)); exact (Kd.R_mono (Kd.R_far (p := ⟨gb359, 0, none⟩) (Kd.R_types HO358.out BK359.out (by decide)) (fun _ hk => hk.2) (.slice Ao85 t356.length co85)) (fun _ h_ => h_.1)))); (case side4 => exact (Kd.R_reads' HO358.out).2.1); rintro e w91 ⟨rfl, hb⟩; refine ⟨_, rfl, ?_⟩; have n0_ := Aside0.mk (Kd.R_below (by (with_reducible repeat (first | apply Kd.R_alloc | apply Kd.R_drewN | apply Kd.R_drew)); exact (Kd.R_mono (Kd.R_far (p := ⟨gb359, 0, none⟩) (Kd.R_types HO347.out BK359.out (by decide)) (fun _ hk => hk.2) (.slice Ao85 t356.length co85)) (fun _ h_ => h_.1))) hb); have n1_ := Aside0.mk (Kd.R_below (by (with_reducible repeat (first | apply Kd.R_alloc | apply Kd.R_drewN | apply Kd.R_drew)); exact (Kd.R_mono (Kd.R_far (p := ⟨gb359, 0, none⟩) (Kd.R_types HO350.out BK359.out (by decide)) (fun _ hk => hk.2) (.slice Ao85 t356.length co85)) (fun _ h_ => h_.1))) hb); have n2_ := Aside0.mk (Kd.R_below (by (with_reducible repeat (first | apply Kd.R_alloc | apply Kd.R_drewN | apply Kd.R_drew)); exact (Kd.R_mono (Kd.R_far (p := ⟨gb359, 0, none⟩) (Kd.R_types HO354.out BK359.out (by decide)) (fun _ hk => hk.2) (.slice Ao85 t356.length co85)) (fun _ h_ => h_.1))) hb); have n3_ := Aside0.mk (Kd.R_below (by (with_reducible repeat (first | apply Kd.R_alloc | apply Kd.R_drewN | apply Kd.R_drew)); exact (Kd.R_mono (Kd.R_far (p := ⟨gb359, 0, none⟩) (Kd.R_types HO358.out BK359.out (by decide)) (fun _ hk => hk.2) (.slice Ao85 t356.length co85)) (fun _ h_ => h_.1))) hb); have n4_ := Aside0.mk (blk_below (g := gb341) (o := .cells #[.slice A0_0 l0_0.length c0_0] 78 (0, 0)) bx hb); have n5_ := Aside0.mk (blk_below (g := gb342) (o := .cells #[.slice A1_0 l1_0.length c1_0] 78 (0, 0)) bx hb); have n6_ := Aside0.mk (blk_below (g := gb355) (o := .cells #[.slice Ao78 t352.length co78] 83 (0, 0)) bx hb); have n7_ := Aside0.mk (blk_below (g := gb359) (o := .cells #[.slice Ao85 t356.length co85] 83 (0, 0)) bx hb); have n8_ := Aside0.mk (below_step bw hb); clear HO347; clear HO350; clear HO354; clear HO358; clear BK341; clear BK342; clear BK355; clear BK359; clear HB; have HO347 := n0_; have HO350 := n1_; have HO354 := n2_; have HO358 := n3_; have BK341 := n4_; have BK342 := n5_; have BK355 := n6_; have BK359 := n7_; have HB := n8_; clear n0_ n1_ n2_ n3_ n4_ n5_ n6_ n7_ n8_; (try clear hb); (try clear hb2); (try clear hk); (try clear hi)))
            have n0_ := Aside0.mk (Kd.R_drew HO347.out)
            have n1_ := Aside0.mk (Kd.R_drew HO350.out)
            have n2_ := Aside0.mk (Kd.R_drew HO354.out)
            have n3_ := Aside0.mk (Kd.R_drew HO358.out)
            have n4_ := Aside0.mk (blk_drew BK341.out)
            have n5_ := Aside0.mk (blk_drew BK342.out)
            have n6_ := Aside0.mk (blk_drew BK355.out)
            have n7_ := Aside0.mk (blk_drew BK359.out)
            have n8_ := Aside0.mk (below_drew1 HB.out)
            clear HO347
            clear HO350
            clear HO354
            clear HO358
            clear BK341
            clear BK342
            clear BK355
            clear BK359
            clear HB
            have HO347 := n0_
            have HO350 := n1_
            have HO354 := n2_
            have HO358 := n3_
            have BK341 := n4_
            have BK342 := n5_
            have BK355 := n6_
            have BK359 := n7_
            have HB := n8_
            clear n0_ n1_ n2_ n3_ n4_ n5_ n6_ n7_ n8_
            refine start_ (n := 5) (S := fun w' => w'.cell? ⟨gb355, 0, none⟩ = some (.slice Ao78 t352.length co78) ∧ w'.cell? ⟨gb341, 0, none⟩ = some (.slice A0_0 l0_0.length c0_0)) (ds := []) #[false, false, false, false, false] (by kernel_rfl) rfl rfl ⟨(blk_cell BK355.out 0).trans rfl, (blk_cell BK341.out 0).trans rfl⟩ (fun hHeld => ?_)
            generalize w91.drew = w92 at HO347 HO350 HO354 HO358 BK341 BK342 BK355 BK359 HB hHeld ⊢
            refine take_ (i := 0) (N := some 35) (v := ?_) (a' := ?_) #[true, false, false, false, false] rfl rfl (by kernel_rfl) (fun _ _ _ h => h) (Or.inl ⟨by rfl, ?_⟩) hHeld ?_ ?_
            rotate_left
            · rintro w' ⟨s0, s1⟩
              go_simp
              with_reducible rfl
            rotate_left
            · simp only [Act.put, List.setIfInBounds_toArray, List.set_cons_zero, List.set_cons_succ, i64_w, i32_w]
              rfl
            refine take_ (i := 1) (N := some 36) (v := ?_) (a' := ?_) #[true, true, false, false, false] rfl rfl (by kernel_rfl) (fun _ _ _ h => h) (Or.inl ⟨by rfl, ?_⟩) hHeld ?_ ?_
            rotate_left
            · rintro w' ⟨s0, s1⟩
              go_simp
              with_reducible rfl
            rotate_left
            · simp only [Act.put, List.setIfInBounds_toArray, List.set_cons_zero, List.set_cons_succ, i64_w, i32_w]
              rfl
            refine one_ (i := 2) (N := some 37) #[true, true, true, false, false] rfl rfl (by kernel_rfl) (by decide) (fun K hK => ?_)
            refine goes_ Try.func47 (by kernel_rfl) rfl #[.agg #[.slice A0_0 l0_0.length c0_0]] (by rfl) rfl rfl (by (try simp only [List.map_toArray, List.map_cons, List.map_nil]); first | done | rfl | (simp only [List.length_drop, List.length_take]; rfl)) ?_
            with_reducible refine (laws_toGrammar.calls k _ _ l0_0 t361 _ ?side1 ?side2 A56.out).mono ?_
            (case side1 => exact kb)
            (case side2 => exact HC0_0.out)
            rintro e w93 ⟨v362, rfl, ho0, hb⟩
            refine ⟨_, rfl, ?_⟩
            have n0_ := Aside0.mk (Kd.R_elder' (by (with_reducible repeat (first | apply Kd.R_alloc | apply Kd.R_drewN | apply Kd.R_drew)); exact HO347.out) (Kd.R_base ho0) hb)
            have n1_ := Aside0.mk (Kd.R_elder' (by (with_reducible repeat (first | apply Kd.R_alloc | apply Kd.R_drewN | apply Kd.R_drew)); exact HO350.out) (Kd.R_base ho0) hb)
            have n2_ := Aside0.mk (Kd.R_elder' (by (with_reducible repeat (first | apply Kd.R_alloc | apply Kd.R_drewN | apply Kd.R_drew)); exact HO354.out) (Kd.R_base ho0) hb)
            have n3_ := Aside0.mk (Kd.R_elder' (by (with_reducible repeat (first | apply Kd.R_alloc | apply Kd.R_drewN | apply Kd.R_drew)); exact HO358.out) (Kd.R_base ho0) hb)
            have n4_ := Aside0.mk (Kd.R_lower (Kd.R_new' (Kd.R_new' (Kd.R_new' (Kd.R_new' ho0 (Kd.R_lt (by (with_reducible repeat (first | apply Kd.R_alloc | apply Kd.R_drewN | apply Kd.R_drew)); exact HO347.out))) (Kd.R_lt (by (with_reducible repeat (first | apply Kd.R_alloc | apply Kd.R_drewN | apply Kd.R_drew)); exact HO350.out))) (Kd.R_lt (by (with_reducible repeat (first | apply Kd.R_alloc | apply Kd.R_drewN | apply Kd.R_drew)); exact HO354.out))) (Kd.R_lt (by (with_reducible repeat (first | apply Kd.R_alloc | apply Kd.R_drewN | apply Kd.R_drew)); exact HO358.out))) (below_size bw))
            have n5_ := Aside0.mk (blk_below (g := gb341) (o := .cells #[.slice A0_0 l0_0.length c0_0] 78 (0, 0)) bx hb)
            have n6_ := Aside0.mk (blk_below (g := gb342) (o := .cells #[.slice A1_0 l1_0.length c1_0] 78 (0, 0)) bx hb)
            have n7_ := Aside0.mk (blk_below (g := gb355) (o := .cells #[.slice Ao78 t352.length co78] 83 (0, 0)) bx hb)
            have n8_ := Aside0.mk (blk_below (g := gb359) (o := .cells #[.slice Ao85 t356.length co85] 83 (0, 0)) bx hb)
            have n9_ := Aside0.mk (below_step bw hb)
            clear HO347
            clear HO350
            clear HO354
            clear HO358
            clear BK341
            clear BK342
            clear BK355
            clear BK359
            clear HB
            have HO347 := n0_
            have HO350 := n1_
            have HO354 := n2_
            have HO358 := n3_
            have HO363 := n4_
            have BK341 := n5_
            have BK342 := n6_
            have BK355 := n7_
            have BK359 := n8_
            have HB := n9_
            clear n0_ n1_ n2_ n3_ n4_ n5_ n6_ n7_ n8_ n9_
            (try clear hb)
            (try clear hb2)
            (try clear hk)
            (try clear hi)
            (try clear ho0)
            obtain ⟨Ao94, co94, eo94⟩ := Kd.R_slice HO363.out
            (first | subst eo94 | (injection eo94 with f1_ f2_ f3_; have f4_ := f1_.symm; have f5_ := f3_.symm; clear f1_ f2_ f3_; subst f4_; subst f5_))
            refine hK.out _ _ ⟨(blk_cell BK355.out 0).trans rfl, (blk_cell BK341.out 0).trans rfl⟩ (fun hHeld => ?_)
            clear hK K
            refine norm_ (a' := ?_) ?_ ?_
            rotate_left
            · show Act.put _ (some 37) _ = _
              simp only [Act.put, List.setIfInBounds_toArray, List.set_cons_zero, List.set_cons_succ, i64_w, i32_w]
              rfl
            refine one_ (i := 3) (N := some 38) #[true, true, true, true, false] rfl rfl (by kernel_rfl) (by decide) (fun K hK => ?_)
            refine goes_ Try.func49 (by kernel_rfl) rfl #[.agg #[.slice Ao78 t352.length co78], .agg #[.slice Ao94 t361.length co94]] (by rfl) rfl rfl (by (try simp only [List.map_toArray, List.map_cons, List.map_nil]); first | done | rfl | (simp only [List.length_drop, List.length_take]; rfl)) ?_
            with_reducible refine (laws_eqGrammar.calls k _ _ t352 _ _ t361 true _ ?side1 ?side2 ?side3 ?side4 A57.out).mono ?_
            (case side1 => repeat (first | exact (Kd.R_reads' HO354.out).2.2 | (with_reducible refine Kd.C_alloc ?_ _) | (with_reducible refine Kd.C_drewN ?_ _) | (with_reducible refine Kd.C_drew ?_)))
            (case side2 => exact (Kd.R_reads' HO354.out).2.1)
            (case side3 => repeat (first | exact (Kd.R_reads' HO363.out).2.2 | (with_reducible refine Kd.C_alloc ?_ _) | (with_reducible refine Kd.C_drewN ?_ _) | (with_reducible refine Kd.C_drew ?_)))
            (case side4 => exact (Kd.R_reads' HO363.out).2.1)
            rintro e w95 ⟨rfl, hb⟩
            refine ⟨_, rfl, ?_⟩
            have n0_ := Aside0.mk (Kd.R_below (by (with_reducible repeat (first | apply Kd.R_alloc | apply Kd.R_drewN | apply Kd.R_drew)); exact HO347.out) hb)
            have n1_ := Aside0.mk (Kd.R_below (by (with_reducible repeat (first | apply Kd.R_alloc | apply Kd.R_drewN | apply Kd.R_drew)); exact HO350.out) hb)
            have n2_ := Aside0.mk (Kd.R_below (by (with_reducible repeat (first | apply Kd.R_alloc | apply Kd.R_drewN | apply Kd.R_drew)); exact HO354.out) hb)
            have n3_ := Aside0.mk (Kd.R_below (by (with_reducible repeat (first | apply Kd.R_alloc | apply Kd.R_drewN | apply Kd.R_drew)); exact HO358.out) hb)
            have n4_ := Aside0.mk (Kd.R_below (by (with_reducible repeat (first | apply Kd.R_alloc | apply Kd.R_drewN | apply Kd.R_drew)); exact HO363.out) hb)
            have n5_ := Aside0.mk (blk_below (g := gb341) (o := .cells #[.slice A0_0 l0_0.length c0_0] 78 (0, 0)) bx hb)
            have n6_ := Aside0.mk (blk_below (g := gb342) (o := .cells #[.slice A1_0 l1_0.length c1_0] 78 (0, 0)) bx hb)
            have n7_ := Aside0.mk (blk_below (g := gb355) (o := .cells #[.slice Ao78 t352.length co78] 83 (0, 0)) bx hb)
            have n8_ := Aside0.mk (blk_below (g := gb359) (o := .cells #[.slice Ao85 t356.length co85] 83 (0, 0)) bx hb)
            have n9_ := Aside0.mk (below_step bw hb)
            clear HO347
            clear HO350
            clear HO354
            clear HO358
            clear HO363
            clear BK341
            clear BK342
            clear BK355
            clear BK359
            clear HB
            have HO347 := n0_
            have HO350 := n1_
            have HO354 := n2_
            have HO358 := n3_
            have HO363 := n4_
            have BK341 := n5_
            have BK342 := n6_
            have BK355 := n7_
            have BK359 := n8_
            have HB := n9_
            clear n0_ n1_ n2_ n3_ n4_ n5_ n6_ n7_ n8_ n9_
            (try clear hb)
            (try clear hb2)
            (try clear hk)
            (try clear hi)
            refine hK.out _ _ ⟨(blk_cell BK355.out 0).trans rfl, (blk_cell BK341.out 0).trans rfl⟩ (fun hHeld => ?_)
            clear hK K
            refine norm_ (a' := ?_) ?_ ?_
            rotate_left
            · show Act.put _ (some 38) _ = _
              simp only [Act.put, List.setIfInBounds_toArray, List.set_cons_zero, List.set_cons_succ, i64_w, i32_w]
              rfl
            refine pure_ (i := 4) (N := some 39) (v := ?_) (a' := ?_) #[true, true, true, true, true] rfl rfl (by kernel_rfl) (fun _ _ _ h => h) (Or.inl ⟨by rfl, ?_⟩) ?_ ?_
            rotate_left
            · intro w'
              go_simp
              with_reducible rfl
            rotate_left
            · simp only [Act.put, List.setIfInBounds_toArray, List.set_cons_zero, List.set_cons_succ, i64_w, i32_w]
              rfl
            refine done_ (by kernel_rfl) ?_
            try go_wp2
            have n0_ := Aside0.mk (Kd.R_drew HO347.out)
            have n1_ := Aside0.mk (Kd.R_drew HO350.out)
            have n2_ := Aside0.mk (Kd.R_drew HO354.out)
            have n3_ := Aside0.mk (Kd.R_drew HO358.out)
            have n4_ := Aside0.mk (Kd.R_drew HO363.out)
            have n5_ := Aside0.mk (blk_drew BK341.out)
            have n6_ := Aside0.mk (blk_drew BK342.out)
            have n7_ := Aside0.mk (blk_drew BK355.out)
            have n8_ := Aside0.mk (blk_drew BK359.out)
            have n9_ := Aside0.mk (below_drew1 HB.out)
            clear HO347
            clear HO350
            clear HO354
            clear HO358
            clear HO363
            clear BK341
            clear BK342
            clear BK355
            clear BK359
            clear HB
            have HO347 := n0_
            have HO350 := n1_
            have HO354 := n2_
            have HO358 := n3_
            have HO363 := n4_
            have BK341 := n5_
            have BK342 := n6_
            have BK355 := n7_
            have BK359 := n8_
            have HB := n9_
            clear n0_ n1_ n2_ n3_ n4_ n5_ n6_ n7_ n8_ n9_
            refine start_ (n := 5) (S := fun w' => w'.cell? ⟨gb359, 0, none⟩ = some (.slice Ao85 t356.length co85) ∧ w'.cell? ⟨gb342, 0, none⟩ = some (.slice A1_0 l1_0.length c1_0)) (ds := []) #[false, false, false, false, false] (by kernel_rfl) rfl rfl ⟨(blk_cell BK359.out 0).trans rfl, (blk_cell BK342.out 0).trans rfl⟩ (fun hHeld => ?_)
            generalize w95.drew = w96 at HO347 HO350 HO354 HO358 HO363 BK341 BK342 BK355 BK359 HB hHeld ⊢
            refine take_ (i := 0) (N := some 40) (v := ?_) (a' := ?_) #[true, false, false, false, false] rfl rfl (by kernel_rfl) (fun _ _ _ h => h) (Or.inl ⟨by rfl, ?_⟩) hHeld ?_ ?_
            rotate_left
            · rintro w' ⟨s0, s1⟩
              go_simp
              with_reducible rfl
            rotate_left
            · simp only [Act.put, List.setIfInBounds_toArray, List.set_cons_zero, List.set_cons_succ, i64_w, i32_w]
              rfl
            refine take_ (i := 1) (N := some 41) (v := ?_) (a' := ?_) #[true, true, false, false, false] rfl rfl (by kernel_rfl) (fun _ _ _ h => h) (Or.inl ⟨by rfl, ?_⟩) hHeld ?_ ?_
            rotate_left
            · rintro w' ⟨s0, s1⟩
              go_simp
              with_reducible rfl
            rotate_left
            · simp only [Act.put, List.setIfInBounds_toArray, List.set_cons_zero, List.set_cons_succ, i64_w, i32_w]
              rfl
            refine one_ (i := 2) (N := some 42) #[true, true, true, false, false] rfl rfl (by kernel_rfl) (by decide) (fun K hK => ?_)
            refine goes_ Try.func47 (by kernel_rfl) rfl #[.agg #[.slice A1_0 l1_0.length c1_0]] (by rfl) rfl rfl (by (try simp only [List.map_toArray, List.map_cons, List.map_nil]); first | done | rfl | (simp only [List.length_drop, List.length_take]; rfl)) ?_
            with_reducible refine (laws_toGrammar.calls k _ _ l1_0 t365 _ ?side1 ?side2 A59.out).mono ?_
            (case side1 => exact kb)
            (case side2 => exact HC1_0.out)
            rintro e w97 ⟨v366, rfl, ho0, hb⟩
            refine ⟨_, rfl, ?_⟩
            have n0_ := Aside0.mk (Kd.R_elder' (by (with_reducible repeat (first | apply Kd.R_alloc | apply Kd.R_drewN | apply Kd.R_drew)); exact HO347.out) (Kd.R_base ho0) hb)
            have n1_ := Aside0.mk (Kd.R_elder' (by (with_reducible repeat (first | apply Kd.R_alloc | apply Kd.R_drewN | apply Kd.R_drew)); exact HO350.out) (Kd.R_base ho0) hb)
            have n2_ := Aside0.mk (Kd.R_elder' (by (with_reducible repeat (first | apply Kd.R_alloc | apply Kd.R_drewN | apply Kd.R_drew)); exact HO354.out) (Kd.R_base ho0) hb)
            have n3_ := Aside0.mk (Kd.R_elder' (by (with_reducible repeat (first | apply Kd.R_alloc | apply Kd.R_drewN | apply Kd.R_drew)); exact HO358.out) (Kd.R_base ho0) hb)
            have n4_ := Aside0.mk (Kd.R_elder' (by (with_reducible repeat (first | apply Kd.R_alloc | apply Kd.R_drewN | apply Kd.R_drew)); exact HO363.out) (Kd.R_base ho0) hb)
            have n5_ := Aside0.mk (Kd.R_lower (Kd.R_new' (Kd.R_new' (Kd.R_new' (Kd.R_new' (Kd.R_new' ho0 (Kd.R_lt (by (with_reducible repeat (first | apply Kd.R_alloc | apply Kd.R_drewN | apply Kd.R_drew)); exact HO347.out))) (Kd.R_lt (by (with_reducible repeat (first | apply Kd.R_alloc | apply Kd.R_drewN | apply Kd.R_drew)); exact HO350.out))) (Kd.R_lt (by (with_reducible repeat (first | apply Kd.R_alloc | apply Kd.R_drewN | apply Kd.R_drew)); exact HO354.out))) (Kd.R_lt (by (with_reducible repeat (first | apply Kd.R_alloc | apply Kd.R_drewN | apply Kd.R_drew)); exact HO358.out))) (Kd.R_lt (by (with_reducible repeat (first | apply Kd.R_alloc | apply Kd.R_drewN | apply Kd.R_drew)); exact HO363.out))) (below_size bw))
            have n6_ := Aside0.mk (blk_below (g := gb341) (o := .cells #[.slice A0_0 l0_0.length c0_0] 78 (0, 0)) bx hb)
            have n7_ := Aside0.mk (blk_below (g := gb342) (o := .cells #[.slice A1_0 l1_0.length c1_0] 78 (0, 0)) bx hb)
            have n8_ := Aside0.mk (blk_below (g := gb355) (o := .cells #[.slice Ao78 t352.length co78] 83 (0, 0)) bx hb)
            have n9_ := Aside0.mk (blk_below (g := gb359) (o := .cells #[.slice Ao85 t356.length co85] 83 (0, 0)) bx hb)
            have n10_ := Aside0.mk (below_step bw hb)
            clear HO347
            clear HO350
            clear HO354
            clear HO358
            clear HO363
            clear BK341
            clear BK342
            clear BK355
            clear BK359
            clear HB
            have HO347 := n0_
            have HO350 := n1_
            have HO354 := n2_
            have HO358 := n3_
            have HO363 := n4_
            have HO367 := n5_
            have BK341 := n6_
            have BK342 := n7_
            have BK355 := n8_
            have BK359 := n9_
            have HB := n10_
            clear n0_ n1_ n2_ n3_ n4_ n5_ n6_ n7_ n8_ n9_ n10_
            (try clear hb)
            (try clear hb2)
            (try clear hk)
            (try clear hi)
            (try clear ho0)
            obtain ⟨Ao98, co98, eo98⟩ := Kd.R_slice HO367.out
            (first | subst eo98 | (injection eo98 with f1_ f2_ f3_; have f4_ := f1_.symm; have f5_ := f3_.symm; clear f1_ f2_ f3_; subst f4_; subst f5_))
            refine hK.out _ _ ⟨(blk_cell BK359.out 0).trans rfl, (blk_cell BK342.out 0).trans rfl⟩ (fun hHeld => ?_)
            clear hK K
            refine norm_ (a' := ?_) ?_ ?_
            rotate_left
            · show Act.put _ (some 42) _ = _
              simp only [Act.put, List.setIfInBounds_toArray, List.set_cons_zero, List.set_cons_succ, i64_w, i32_w]
              rfl
            refine one_ (i := 3) (N := some 43) #[true, true, true, true, false] rfl rfl (by kernel_rfl) (by decide) (fun K hK => ?_)
            refine goes_ Try.func49 (by kernel_rfl) rfl #[.agg #[.slice Ao85 t356.length co85], .agg #[.slice Ao98 t365.length co98]] (by rfl) rfl rfl (by (try simp only [List.map_toArray, List.map_cons, List.map_nil]); first | done | rfl | (simp only [List.length_drop, List.length_take]; rfl)) ?_
            with_reducible refine (laws_eqGrammar.calls k _ _ t356 _ _ t365 true _ ?side1 ?side2 ?side3 ?side4 A60.out).mono ?_
            (case side1 => repeat (first | exact (Kd.R_reads' HO358.out).2.2 | (with_reducible refine Kd.C_alloc ?_ _) | (with_reducible refine Kd.C_drewN ?_ _) | (with_reducible refine Kd.C_drew ?_)))
            (case side2 => exact (Kd.R_reads' HO358.out).2.1)
            (case side3 => repeat (first | exact (Kd.R_reads' HO367.out).2.2 | (with_reducible refine Kd.C_alloc ?_ _) | (with_reducible refine Kd.C_drewN ?_ _) | (with_reducible refine Kd.C_drew ?_)))
            (case side4 => exact (Kd.R_reads' HO367.out).2.1)
            rintro e w99 ⟨rfl, hb⟩
            refine ⟨_, rfl, ?_⟩
            have n0_ := Aside0.mk (Kd.R_below (by (with_reducible repeat (first | apply Kd.R_alloc | apply Kd.R_drewN | apply Kd.R_drew)); exact HO347.out) hb)
            have n1_ := Aside0.mk (Kd.R_below (by (with_reducible repeat (first | apply Kd.R_alloc | apply Kd.R_drewN | apply Kd.R_drew)); exact HO350.out) hb)
            have n2_ := Aside0.mk (Kd.R_below (by (with_reducible repeat (first | apply Kd.R_alloc | apply Kd.R_drewN | apply Kd.R_drew)); exact HO354.out) hb)
            have n3_ := Aside0.mk (Kd.R_below (by (with_reducible repeat (first | apply Kd.R_alloc | apply Kd.R_drewN | apply Kd.R_drew)); exact HO358.out) hb)
            have n4_ := Aside0.mk (Kd.R_below (by (with_reducible repeat (first | apply Kd.R_alloc | apply Kd.R_drewN | apply Kd.R_drew)); exact HO363.out) hb)
            have n5_ := Aside0.mk (Kd.R_below (by (with_reducible repeat (first | apply Kd.R_alloc | apply Kd.R_drewN | apply Kd.R_drew)); exact HO367.out) hb)
            have n6_ := Aside0.mk (blk_below (g := gb341) (o := .cells #[.slice A0_0 l0_0.length c0_0] 78 (0, 0)) bx hb)
            have n7_ := Aside0.mk (blk_below (g := gb342) (o := .cells #[.slice A1_0 l1_0.length c1_0] 78 (0, 0)) bx hb)
            have n8_ := Aside0.mk (blk_below (g := gb355) (o := .cells #[.slice Ao78 t352.length co78] 83 (0, 0)) bx hb)
            have n9_ := Aside0.mk (blk_below (g := gb359) (o := .cells #[.slice Ao85 t356.length co85] 83 (0, 0)) bx hb)
            have n10_ := Aside0.mk (below_step bw hb)
            clear HO347
            clear HO350
            clear HO354
            clear HO358
            clear HO363
            clear HO367
            clear BK341
            clear BK342
            clear BK355
            clear BK359
            clear HB
            have HO347 := n0_
            have HO350 := n1_
            have HO354 := n2_
            have HO358 := n3_
            have HO363 := n4_
            have HO367 := n5_
            have BK341 := n6_
            have BK342 := n7_
            have BK355 := n8_
            have BK359 := n9_
            have HB := n10_
            clear n0_ n1_ n2_ n3_ n4_ n5_ n6_ n7_ n8_ n9_ n10_
            (try clear hb)
            (try clear hb2)
            (try clear hk)
            (try clear hi)
            refine hK.out _ _ ⟨(blk_cell BK359.out 0).trans rfl, (blk_cell BK342.out 0).trans rfl⟩ (fun hHeld => ?_)
            clear hK K
            refine norm_ (a' := ?_) ?_ ?_
            rotate_left
            · show Act.put _ (some 43) _ = _
              simp only [Act.put, List.setIfInBounds_toArray, List.set_cons_zero, List.set_cons_succ, i64_w, i32_w]
              rfl
            refine pure_ (i := 4) (N := some 44) (v := ?_) (a' := ?_) #[true, true, true, true, true] rfl rfl (by kernel_rfl) (fun _ _ _ h => h) (Or.inl ⟨by rfl, ?_⟩) ?_ ?_
            rotate_left
            · intro w'
              go_simp
              with_reducible rfl
            rotate_left
            · simp only [Act.put, List.setIfInBounds_toArray, List.set_cons_zero, List.set_cons_succ, i64_w, i32_w]
              rfl
            refine done_ (by kernel_rfl) ?_
            try go_wp2
            go_ret
            exact ⟨by first | rfl | (simp [errW_none, errW_some] <;> rfl) | (simp [*, errW_none, errW_some] <;> rfl), by repeat (first | (with_reducible first | exact HB.out | apply below_alloc | apply pw_below_drewN | apply below_drew1 | refine below_set ?_ GE341.out | refine below_set ?_ GE342.out | refine below_set ?_ GE355.out | refine below_set ?_ GE359.out) | exact HB.out)⟩
          · replace c61 := Bool.eq_false_iff.mpr c61
            subst c61
            have H1 : (some false) = some r := by rw [if_neg (show ¬ (false = true) by decide)] at H; exact H
            clear H
            have H := H1
            clear H1
            obtain rfl := Option.some.inj H
            go_enter Try.func11, Try.ntmps11
            try go_wp2_with (first | ((with_reducible refine gate_dst (N := 2) rfl ?_); refine box_event ?hg (N := 2) ?hd (cs := #[.slice A0_0 l0_0.length c0_0]) (t := 78) ?hr ?_; (case hd => rfl); (case hg => rfl); (case hr => first | (go_simp; done) | (go_simp; rfl)); intro gb341 hg w100 hbox hb; have n0_ := Aside0.mk (below_step bw hb); have n1_ := Aside0.mk (hbox); have n2_ := Aside0.mk ((bz bw hg : w.heap.size ≤ gb341)); have n3_ := Aside0.mk ((bz bw hg : w.heap.size ≤ gb341)); clear HB; have HB := n0_; have BK341 := n1_; have GW341 := n2_; have GE341 := n3_; clear n0_ n1_ n2_ n3_; clear hb hbox hg) | ((with_reducible refine gate_dst (N := 3) rfl ?_); refine box_event ?hg (N := 3) ?hd (cs := #[.slice A1_0 l1_0.length c1_0]) (t := 78) ?hr ?_; (case hd => rfl); (case hg => rfl); (case hr => first | (go_simp; done) | (go_simp; rfl)); intro gb342 hg w101 hbox hb; have n0_ := Aside0.mk (blk_below (g := gb341) (o := .cells #[.slice A0_0 l0_0.length c0_0] 78 (0, 0)) bx hb); have n1_ := Aside0.mk (below_step bw hb); have n2_ := Aside0.mk (hbox); have n3_ := Aside0.mk ((bz bw hg : w.heap.size ≤ gb342)); have n4_ := Aside0.mk ((bz bw hg : w.heap.size ≤ gb342)); have n5_ := Aside0.mk ((bl bx hg : gb341 ≠ gb342)); have n6_ := Aside0.mk ((bl' bx hg : gb342 ≠ gb341)); clear BK341; clear HB; have BK341 := n0_; have HB := n1_; have BK342 := n2_; have GW342 := n3_; have GE342 := n4_; have NB341_342 := n5_; have NB342_341 := n6_; clear n0_ n1_ n2_ n3_ n4_ n5_ n6_; clear hb hbox hg; have hnb102 := NB341_342.out; have hnc102 := NB342_341.out; obtain ⟨hcz103_0, hfz103_0⟩ := bc1 BK341.out) | ((with_reducible refine gate_callee (f := 45) rfl ?_); refine goesL_ (some 12) rfl rfl Try.func45 (by kernel_rfl) rfl #[.agg #[.slice A0_0 l0_0.length c0_0], .int .i64 1048576] rfl (by (try simp only [List.map_toArray, List.map_cons, List.map_nil]); first | done | rfl | (simp only [List.length_drop, List.length_take]; rfl)) ?_; (with_reducible refine (laws_szGrammar.calls k _ _ l0_0 1048576 t343 _ ?side1 ?side2 A3.out).mono ?_); (case side1 => exact kb); (case side2 => exact HC0_0.out); rintro e w104 ⟨rfl, hb⟩; refine ⟨_, rfl, ?_⟩; have n0_ := Aside0.mk (blk_below (g := gb341) (o := .cells #[.slice A0_0 l0_0.length c0_0] 78 (0, 0)) bx hb); have n1_ := Aside0.mk (blk_below (g := gb342) (o := .cells #[.slice A1_0 l1_0.length c1_0] 78 (0, 0)) bx hb); have n2_ := Aside0.mk (below_step bw hb); clear BK341; clear BK342; clear HB; have BK341 := n0_; have BK342 := n1_; have HB := n2_; clear n0_ n1_ n2_; (try clear hb); (try clear hb2); (try clear hk); (try clear hi); obtain ⟨hcz105_0, hfz105_0⟩ := bc1 BK342.out) | ((with_reducible refine gate_callee (f := 45) rfl ?_); refine goesL_ (some 17) rfl rfl Try.func45 (by kernel_rfl) rfl #[.agg #[.slice A1_0 l1_0.length c1_0], .int .i64 t343] rfl (by (try simp only [List.map_toArray, List.map_cons, List.map_nil]); first | done | rfl | (simp only [List.length_drop, List.length_take]; rfl)) ?_; (with_reducible refine (laws_szGrammar.calls k _ _ l1_0 t343 t344 _ ?side1 ?side2 A10.out).mono ?_); (case side1 => exact kb); (case side2 => exact HC1_0.out); rintro e w106 ⟨rfl, hb⟩; refine ⟨_, rfl, ?_⟩; have n0_ := Aside0.mk (blk_below (g := gb341) (o := .cells #[.slice A0_0 l0_0.length c0_0] 78 (0, 0)) bx hb); have n1_ := Aside0.mk (blk_below (g := gb342) (o := .cells #[.slice A1_0 l1_0.length c1_0] 78 (0, 0)) bx hb); have n2_ := Aside0.mk (below_step bw hb); clear BK341; clear BK342; clear HB; have BK341 := n0_; have BK342 := n1_; have HB := n2_; clear n0_ n1_ n2_; (try clear hb); (try clear hb2); (try clear hk); (try clear hi)))
            have n0_ := Aside0.mk (blk_drew BK341.out)
            have n1_ := Aside0.mk (blk_drew BK342.out)
            have n2_ := Aside0.mk (below_drew1 HB.out)
            clear BK341
            clear BK342
            clear HB
            have BK341 := n0_
            have BK342 := n1_
            have HB := n2_
            clear n0_ n1_ n2_
            refine start_ (n := 6) (S := fun w' => w'.cell? ⟨gb341, 0, none⟩ = some (.slice A0_0 l0_0.length c0_0) ∧ w'.cell? ⟨gb342, 0, none⟩ = some (.slice A1_0 l1_0.length c1_0)) (ds := []) #[false, false, false, false, false, false] (by kernel_rfl) rfl rfl ⟨(blk_cell BK341.out 0).trans rfl, (blk_cell BK342.out 0).trans rfl⟩ (fun hHeld => ?_)
            generalize w106.drew = w107 at BK341 BK342 HB hHeld ⊢
            refine take_ (i := 0) (N := some 20) (v := ?_) (a' := ?_) #[true, false, false, false, false, false] rfl rfl (by kernel_rfl) (fun _ _ _ h => h) (Or.inl ⟨by rfl, ?_⟩) hHeld ?_ ?_
            rotate_left
            · rintro w' ⟨s0, s1⟩
              go_simp
              with_reducible rfl
            rotate_left
            · simp only [Act.put, List.setIfInBounds_toArray, List.set_cons_zero, List.set_cons_succ, i64_w, i32_w]
              rfl
            refine take_ (i := 2) (N := some 22) (v := ?_) (a' := ?_) #[true, false, true, false, false, false] rfl rfl (by kernel_rfl) (fun _ _ _ h => h) (Or.inl ⟨by rfl, ?_⟩) hHeld ?_ ?_
            rotate_left
            · rintro w' ⟨s0, s1⟩
              go_simp
              with_reducible rfl
            rotate_left
            · simp only [Act.put, List.setIfInBounds_toArray, List.set_cons_zero, List.set_cons_succ, i64_w, i32_w]
              rfl
            refine one_ (i := 1) (N := some 21) #[true, true, true, false, false, false] rfl rfl (by kernel_rfl) (by decide) (fun K hK => ?_)
            refine goes_ Try.func47 (by kernel_rfl) rfl #[.agg #[.slice A0_0 l0_0.length c0_0]] (by rfl) rfl rfl (by (try simp only [List.map_toArray, List.map_cons, List.map_nil]); first | done | rfl | (simp only [List.length_drop, List.length_take]; rfl)) ?_
            with_reducible refine (laws_toGrammar.calls k _ _ l0_0 t345 _ ?side1 ?side2 A19.out).mono ?_
            (case side1 => exact kb)
            (case side2 => exact HC0_0.out)
            rintro e w108 ⟨v346, rfl, ho0, hb⟩
            refine ⟨_, rfl, ?_⟩
            have n0_ := Aside0.mk (Kd.R_lower ho0 (below_size bw))
            have n1_ := Aside0.mk (blk_below (g := gb341) (o := .cells #[.slice A0_0 l0_0.length c0_0] 78 (0, 0)) bx hb)
            have n2_ := Aside0.mk (blk_below (g := gb342) (o := .cells #[.slice A1_0 l1_0.length c1_0] 78 (0, 0)) bx hb)
            have n3_ := Aside0.mk (below_step bw hb)
            clear BK341
            clear BK342
            clear HB
            have HO347 := n0_
            have BK341 := n1_
            have BK342 := n2_
            have HB := n3_
            clear n0_ n1_ n2_ n3_
            (try clear hb)
            (try clear hb2)
            (try clear hk)
            (try clear hi)
            (try clear ho0)
            refine hK.out _ _ ⟨(blk_cell BK341.out 0).trans rfl, (blk_cell BK342.out 0).trans rfl⟩ (fun hHeld => ?_)
            clear hK K
            refine norm_ (a' := ?_) ?_ ?_
            rotate_left
            · show Act.put _ (some 21) _ = _
              simp only [Act.put, List.setIfInBounds_toArray, List.set_cons_zero, List.set_cons_succ, i64_w, i32_w]
              rfl
            refine one_ (i := 3) (N := some 23) #[true, true, true, true, false, false] rfl rfl (by kernel_rfl) (by decide) (fun K hK => ?_)
            refine goes_ Try.func47 (by kernel_rfl) rfl #[.agg #[.slice A1_0 l1_0.length c1_0]] (by rfl) rfl rfl (by (try simp only [List.map_toArray, List.map_cons, List.map_nil]); first | done | rfl | (simp only [List.length_drop, List.length_take]; rfl)) ?_
            with_reducible refine (laws_toGrammar.calls k _ _ l1_0 t348 _ ?side1 ?side2 A20.out).mono ?_
            (case side1 => exact kb)
            (case side2 => exact HC1_0.out)
            rintro e w109 ⟨v349, rfl, ho0, hb⟩
            refine ⟨_, rfl, ?_⟩
            have n0_ := Aside0.mk (Kd.R_elder' (by (with_reducible repeat (first | apply Kd.R_alloc | apply Kd.R_drewN | apply Kd.R_drew)); exact HO347.out) (Kd.R_base ho0) hb)
            have n1_ := Aside0.mk (Kd.R_lower (Kd.R_new' ho0 (Kd.R_lt (by (with_reducible repeat (first | apply Kd.R_alloc | apply Kd.R_drewN | apply Kd.R_drew)); exact HO347.out))) (below_size bw))
            have n2_ := Aside0.mk (blk_below (g := gb341) (o := .cells #[.slice A0_0 l0_0.length c0_0] 78 (0, 0)) bx hb)
            have n3_ := Aside0.mk (blk_below (g := gb342) (o := .cells #[.slice A1_0 l1_0.length c1_0] 78 (0, 0)) bx hb)
            have n4_ := Aside0.mk (below_step bw hb)
            clear HO347
            clear BK341
            clear BK342
            clear HB
            have HO347 := n0_
            have HO350 := n1_
            have BK341 := n2_
            have BK342 := n3_
            have HB := n4_
            clear n0_ n1_ n2_ n3_ n4_
            (try clear hb)
            (try clear hb2)
            (try clear hk)
            (try clear hi)
            (try clear ho0)
            obtain ⟨Ao110, co110, eo110⟩ := Kd.R_slice HO347.out
            (first | subst eo110 | (injection eo110 with f1_ f2_ f3_; have f4_ := f1_.symm; have f5_ := f3_.symm; clear f1_ f2_ f3_; subst f4_; subst f5_))
            obtain ⟨Ao111, co111, eo111⟩ := Kd.R_slice HO350.out
            (first | subst eo111 | (injection eo111 with f1_ f2_ f3_; have f4_ := f1_.symm; have f5_ := f3_.symm; clear f1_ f2_ f3_; subst f4_; subst f5_))
            refine hK.out _ _ ⟨(blk_cell BK341.out 0).trans rfl, (blk_cell BK342.out 0).trans rfl⟩ (fun hHeld => ?_)
            clear hK K
            refine norm_ (a' := ?_) ?_ ?_
            rotate_left
            · show Act.put _ (some 23) _ = _
              simp only [Act.put, List.setIfInBounds_toArray, List.set_cons_zero, List.set_cons_succ, i64_w, i32_w]
              rfl
            refine one_ (i := 4) (N := some 24) #[true, true, true, true, true, false] rfl rfl (by kernel_rfl) (by decide) (fun K hK => ?_)
            refine goes_ Try.func46 (by kernel_rfl) rfl #[.agg #[.slice Ao110 t345.length co110], .agg #[.slice Ao111 t348.length co111]] (by rfl) rfl rfl (by (try simp only [List.map_toArray, List.map_cons, List.map_nil]); first | done | rfl | (simp only [List.length_drop, List.length_take]; rfl)) ?_
            with_reducible refine (spec_SameGrammar.calls k _ _ t345 _ _ t348 t351 _ ?side1 ?side2 ?side3 ?side4 A21.out).mono ?_
            (case side1 => repeat (first | exact (Kd.R_reads' HO347.out).2.2 | (with_reducible refine Kd.C_alloc ?_ _) | (with_reducible refine Kd.C_drewN ?_ _) | (with_reducible refine Kd.C_drew ?_)))
            (case side2 => exact (Kd.R_reads' HO347.out).2.1)
            (case side3 => repeat (first | exact (Kd.R_reads' HO350.out).2.2 | (with_reducible refine Kd.C_alloc ?_ _) | (with_reducible refine Kd.C_drewN ?_ _) | (with_reducible refine Kd.C_drew ?_)))
            (case side4 => exact (Kd.R_reads' HO350.out).2.1)
            rintro e w112 ⟨rfl, hb⟩
            refine ⟨_, rfl, ?_⟩
            have n0_ := Aside0.mk (Kd.R_below (by (with_reducible repeat (first | apply Kd.R_alloc | apply Kd.R_drewN | apply Kd.R_drew)); exact HO347.out) hb)
            have n1_ := Aside0.mk (Kd.R_below (by (with_reducible repeat (first | apply Kd.R_alloc | apply Kd.R_drewN | apply Kd.R_drew)); exact HO350.out) hb)
            have n2_ := Aside0.mk (blk_below (g := gb341) (o := .cells #[.slice A0_0 l0_0.length c0_0] 78 (0, 0)) bx hb)
            have n3_ := Aside0.mk (blk_below (g := gb342) (o := .cells #[.slice A1_0 l1_0.length c1_0] 78 (0, 0)) bx hb)
            have n4_ := Aside0.mk (below_step bw hb)
            clear HO347
            clear HO350
            clear BK341
            clear BK342
            clear HB
            have HO347 := n0_
            have HO350 := n1_
            have BK341 := n2_
            have BK342 := n3_
            have HB := n4_
            clear n0_ n1_ n2_ n3_ n4_
            (try clear hb)
            (try clear hb2)
            (try clear hk)
            (try clear hi)
            refine hK.out _ _ ⟨(blk_cell BK341.out 0).trans rfl, (blk_cell BK342.out 0).trans rfl⟩ (fun hHeld => ?_)
            clear hK K
            refine norm_ (a' := ?_) ?_ ?_
            rotate_left
            · show Act.put _ (some 24) _ = _
              simp only [Act.put, List.setIfInBounds_toArray, List.set_cons_zero, List.set_cons_succ, i64_w, i32_w]
              rfl
            refine pure_ (i := 5) (N := some 6) (v := ?_) (a' := ?_) #[true, true, true, true, true, true] rfl rfl (by kernel_rfl) (fun _ _ _ h => h) (Or.inl ⟨by rfl, ?_⟩) ?_ ?_
            rotate_left
            · intro w'
              go_simp
              with_reducible rfl
            rotate_left
            · simp only [Act.put, List.setIfInBounds_toArray, List.set_cons_zero, List.set_cons_succ, i64_w, i32_w]
              rfl
            refine done_ (by kernel_rfl) ?_
            obtain ⟨hcz113_0, hfz113_0⟩ := bc1 BK341.out
            try go_wp2_with (first | ((with_reducible refine gate_callee (f := 47) rfl ?_); refine goesL_ (some 26) rfl rfl Try.func47 (by kernel_rfl) rfl #[.agg #[.slice A0_0 l0_0.length c0_0]] rfl (by (try simp only [List.map_toArray, List.map_cons, List.map_nil]); first | done | rfl | (simp only [List.length_drop, List.length_take]; rfl)) ?_; (with_reducible refine (laws_toGrammar.calls k _ _ l0_0 t352 _ ?side1 ?side2 A22.out).mono ?_); (case side1 => exact kb); (case side2 => exact HC0_0.out); rintro e w114 ⟨v353, rfl, ho0, hb⟩; refine ⟨_, rfl, ?_⟩; have n0_ := Aside0.mk (Kd.R_elder' (by (with_reducible repeat (first | apply Kd.R_alloc | apply Kd.R_drewN | apply Kd.R_drew)); exact HO347.out) (Kd.R_base ho0) hb); have n1_ := Aside0.mk (Kd.R_elder' (by (with_reducible repeat (first | apply Kd.R_alloc | apply Kd.R_drewN | apply Kd.R_drew)); exact HO350.out) (Kd.R_base ho0) hb); have n2_ := Aside0.mk (Kd.R_lower (Kd.R_new' (Kd.R_new' ho0 (Kd.R_lt (by (with_reducible repeat (first | apply Kd.R_alloc | apply Kd.R_drewN | apply Kd.R_drew)); exact HO347.out))) (Kd.R_lt (by (with_reducible repeat (first | apply Kd.R_alloc | apply Kd.R_drewN | apply Kd.R_drew)); exact HO350.out))) (below_size bw)); have n3_ := Aside0.mk (blk_below (g := gb341) (o := .cells #[.slice A0_0 l0_0.length c0_0] 78 (0, 0)) bx hb); have n4_ := Aside0.mk (blk_below (g := gb342) (o := .cells #[.slice A1_0 l1_0.length c1_0] 78 (0, 0)) bx hb); have n5_ := Aside0.mk (below_step bw hb); clear HO347; clear HO350; clear BK341; clear BK342; clear HB; have HO347 := n0_; have HO350 := n1_; have HO354 := n2_; have BK341 := n3_; have BK342 := n4_; have HB := n5_; clear n0_ n1_ n2_ n3_ n4_ n5_; (try clear hb); (try clear hb2); (try clear hk); (try clear hi); (try clear ho0)) | ((with_reducible refine gate_dst (N := 7) rfl ?_); refine box_event ?hg (N := 7) ?hd (cs := #[.slice none 0 0]) (t := 83) ?hr ?_; (case hd => rfl); (case hg => rfl); (case hr => first | (go_simp; done) | (go_simp; rfl)); intro gb355 hg w115 hbox hb; have n0_ := Aside0.mk (Kd.R_below (by (with_reducible repeat (first | apply Kd.R_alloc | apply Kd.R_drewN | apply Kd.R_drew)); exact HO347.out) hb); have n1_ := Aside0.mk (Kd.R_below (by (with_reducible repeat (first | apply Kd.R_alloc | apply Kd.R_drewN | apply Kd.R_drew)); exact HO350.out) hb); have n2_ := Aside0.mk (Kd.R_below (by (with_reducible repeat (first | apply Kd.R_alloc | apply Kd.R_drewN | apply Kd.R_drew)); exact HO354.out) hb); have n3_ := Aside0.mk (blk_below (g := gb341) (o := .cells #[.slice A0_0 l0_0.length c0_0] 78 (0, 0)) bx hb); have n4_ := Aside0.mk (blk_below (g := gb342) (o := .cells #[.slice A1_0 l1_0.length c1_0] 78 (0, 0)) bx hb); have n5_ := Aside0.mk (below_step bw hb); have n6_ := Aside0.mk (hbox); have n7_ := Aside0.mk ((bz bw hg : w.heap.size ≤ gb355)); have n8_ := Aside0.mk ((bz bw hg : w.heap.size ≤ gb355)); have n9_ := Aside0.mk ((bl bx hg : gb341 ≠ gb355)); have n10_ := Aside0.mk ((bl' bx hg : gb355 ≠ gb341)); have n11_ := Aside0.mk ((bl bx hg : gb342 ≠ gb355)); have n12_ := Aside0.mk ((bl' bx hg : gb355 ≠ gb342)); clear HO347; clear HO350; clear HO354; clear BK341; clear BK342; clear HB; have HO347 := n0_; have HO350 := n1_; have HO354 := n2_; have BK341 := n3_; have BK342 := n4_; have HB := n5_; have BK355 := n6_; have GW355 := n7_; have GE355 := n8_; have NB341_355 := n9_; have NB355_341 := n10_; have NB342_355 := n11_; have NB355_342 := n12_; clear n0_ n1_ n2_ n3_ n4_ n5_ n6_ n7_ n8_ n9_ n10_ n11_ n12_; clear hb hbox hg; obtain ⟨Ao116, co116, eo116⟩ := Kd.R_slice HO354.out; subst eo116; have hnb117 := NB355_341.out; have hnc117 := NB341_355.out; have hnb118 := NB355_342.out; have hnc118 := NB342_355.out; obtain ⟨hcz119_0, hfz119_0⟩ := bc1 BK355.out; obtain ⟨hcz120_0, hfz120_0⟩ := bc1 BK342.out) | ((with_reducible refine gate_callee (f := 47) rfl ?_); refine goesL_ (some 28) rfl rfl Try.func47 (by kernel_rfl) rfl #[.agg #[.slice A1_0 l1_0.length c1_0]] rfl (by (try simp only [List.map_toArray, List.map_cons, List.map_nil]); first | done | rfl | (simp only [List.length_drop, List.length_take]; rfl)) ?_; (with_reducible refine (laws_toGrammar.calls k _ _ l1_0 t356 _ ?side1 ?side2 A23.out).mono ?_); (case side1 => exact Kd.C_below HR1_0.out bw); (case side2 => exact HC1_0.out); rintro e w121 ⟨v357, rfl, ho0, hb⟩; refine ⟨_, rfl, ?_⟩; have n0_ := Aside0.mk (Kd.R_elder' (by (with_reducible repeat (first | apply Kd.R_alloc | apply Kd.R_drewN | apply Kd.R_drew)); exact (Kd.R_mono (Kd.R_far (p := ⟨gb355, 0, none⟩) (Kd.R_types HO347.out BK355.out (by decide)) (fun _ hk => hk.2) (.slice Ao116 t352.length co116)) (fun _ h_ => h_.1))) (Kd.R_base ho0) hb); have n1_ := Aside0.mk (Kd.R_elder' (by (with_reducible repeat (first | apply Kd.R_alloc | apply Kd.R_drewN | apply Kd.R_drew)); exact (Kd.R_mono (Kd.R_far (p := ⟨gb355, 0, none⟩) (Kd.R_types HO350.out BK355.out (by decide)) (fun _ hk => hk.2) (.slice Ao116 t352.length co116)) (fun _ h_ => h_.1))) (Kd.R_base ho0) hb); have n2_ := Aside0.mk (Kd.R_elder' (by (with_reducible repeat (first | apply Kd.R_alloc | apply Kd.R_drewN | apply Kd.R_drew)); exact (Kd.R_mono (Kd.R_far (p := ⟨gb355, 0, none⟩) (Kd.R_types HO354.out BK355.out (by decide)) (fun _ hk => hk.2) (.slice Ao116 t352.length co116)) (fun _ h_ => h_.1))) (Kd.R_base ho0) hb); have n3_ := Aside0.mk (Kd.R_lower (Kd.R_new' (Kd.R_new' (Kd.R_new' ho0 (Kd.R_lt (by (with_reducible repeat (first | apply Kd.R_alloc | apply Kd.R_drewN | apply Kd.R_drew)); exact (Kd.R_mono (Kd.R_far (p := ⟨gb355, 0, none⟩) (Kd.R_types HO347.out BK355.out (by decide)) (fun _ hk => hk.2) (.slice Ao116 t352.length co116)) (fun _ h_ => h_.1))))) (Kd.R_lt (by (with_reducible repeat (first | apply Kd.R_alloc | apply Kd.R_drewN | apply Kd.R_drew)); exact (Kd.R_mono (Kd.R_far (p := ⟨gb355, 0, none⟩) (Kd.R_types HO350.out BK355.out (by decide)) (fun _ hk => hk.2) (.slice Ao116 t352.length co116)) (fun _ h_ => h_.1))))) (Kd.R_lt (by (with_reducible repeat (first | apply Kd.R_alloc | apply Kd.R_drewN | apply Kd.R_drew)); exact (Kd.R_mono (Kd.R_far (p := ⟨gb355, 0, none⟩) (Kd.R_types HO354.out BK355.out (by decide)) (fun _ hk => hk.2) (.slice Ao116 t352.length co116)) (fun _ h_ => h_.1))))) (below_size bw)); have n4_ := Aside0.mk (blk_below (g := gb341) (o := .cells #[.slice A0_0 l0_0.length c0_0] 78 (0, 0)) bx hb); have n5_ := Aside0.mk (blk_below (g := gb342) (o := .cells #[.slice A1_0 l1_0.length c1_0] 78 (0, 0)) bx hb); have n6_ := Aside0.mk (blk_below (g := gb355) (o := .cells #[.slice Ao116 t352.length co116] 83 (0, 0)) bx hb); have n7_ := Aside0.mk (below_step bw hb); clear HO347; clear HO350; clear HO354; clear BK341; clear BK342; clear BK355; clear HB; have HO347 := n0_; have HO350 := n1_; have HO354 := n2_; have HO358 := n3_; have BK341 := n4_; have BK342 := n5_; have BK355 := n6_; have HB := n7_; clear n0_ n1_ n2_ n3_ n4_ n5_ n6_ n7_; (try clear hb); (try clear hb2); (try clear hk); (try clear hi); (try clear ho0)) | ((with_reducible refine gate_dst (N := 8) rfl ?_); refine box_event ?hg (N := 8) ?hd (cs := #[.slice none 0 0]) (t := 83) ?hr ?_; (case hd => rfl); (case hg => rfl); (case hr => first | (go_simp; done) | (go_simp; rfl)); intro gb359 hg w122 hbox hb; have n0_ := Aside0.mk (Kd.R_below (by (with_reducible repeat (first | apply Kd.R_alloc | apply Kd.R_drewN | apply Kd.R_drew)); exact HO347.out) hb); have n1_ := Aside0.mk (Kd.R_below (by (with_reducible repeat (first | apply Kd.R_alloc | apply Kd.R_drewN | apply Kd.R_drew)); exact HO350.out) hb); have n2_ := Aside0.mk (Kd.R_below (by (with_reducible repeat (first | apply Kd.R_alloc | apply Kd.R_drewN | apply Kd.R_drew)); exact HO354.out) hb); have n3_ := Aside0.mk (Kd.R_below (by (with_reducible repeat (first | apply Kd.R_alloc | apply Kd.R_drewN | apply Kd.R_drew)); exact HO358.out) hb); have n4_ := Aside0.mk (blk_below (g := gb341) (o := .cells #[.slice A0_0 l0_0.length c0_0] 78 (0, 0)) bx hb); have n5_ := Aside0.mk (blk_below (g := gb342) (o := .cells #[.slice A1_0 l1_0.length c1_0] 78 (0, 0)) bx hb); have n6_ := Aside0.mk (blk_below (g := gb355) (o := .cells #[.slice Ao116 t352.length co116] 83 (0, 0)) bx hb); have n7_ := Aside0.mk (below_step bw hb); have n8_ := Aside0.mk (hbox); have n9_ := Aside0.mk ((bz bw hg : w.heap.size ≤ gb359)); have n10_ := Aside0.mk ((bz bw hg : w.heap.size ≤ gb359)); have n11_ := Aside0.mk ((bl bx hg : gb341 ≠ gb359)); have n12_ := Aside0.mk ((bl' bx hg : gb359 ≠ gb341)); have n13_ := Aside0.mk ((bl bx hg : gb342 ≠ gb359)); have n14_ := Aside0.mk ((bl' bx hg : gb359 ≠ gb342)); have n15_ := Aside0.mk ((bl bx hg : gb355 ≠ gb359)); have n16_ := Aside0.mk ((bl' bx hg : gb359 ≠ gb355)); clear HO347; clear HO350; clear HO354; clear HO358; clear BK341; clear BK342; clear BK355; clear HB; have HO347 := n0_; have HO350 := n1_; have HO354 := n2_; have HO358 := n3_; have BK341 := n4_; have BK342 := n5_; have BK355 := n6_; have HB := n7_; have BK359 := n8_; have GW359 := n9_; have GE359 := n10_; have NB341_359 := n11_; have NB359_341 := n12_; have NB342_359 := n13_; have NB359_342 := n14_; have NB355_359 := n15_; have NB359_355 := n16_; clear n0_ n1_ n2_ n3_ n4_ n5_ n6_ n7_ n8_ n9_ n10_ n11_ n12_ n13_ n14_ n15_ n16_; clear hb hbox hg; obtain ⟨Ao123, co123, eo123⟩ := Kd.R_slice HO358.out; subst eo123; have hnb124 := NB359_341.out; have hnc124 := NB341_359.out; have hnb125 := NB359_342.out; have hnc125 := NB342_359.out; have hnb126 := NB359_355.out; have hnc126 := NB355_359.out; obtain ⟨hcz127_0, hfz127_0⟩ := bc1 BK359.out; obtain ⟨hcz128_0, hfz128_0⟩ := bc1 BK355.out) | ((with_reducible refine gate_callee (f := 48) rfl ?_); refine goesL_ (some 31) rfl rfl Try.func48 (by kernel_rfl) rfl #[.agg #[.slice Ao116 t352.length co116], .agg #[.slice Ao123 t356.length co123]] rfl (by (try simp only [List.map_toArray, List.map_cons, List.map_nil]); first | done | rfl | (simp only [List.length_drop, List.length_take]; rfl)) ?_; (with_reducible refine (impl_SameGrammar.calls k _ _ t352 _ _ t356 t360 _ ?side1 ?side2 ?side3 ?side4 A24.out).mono ?_); (case side1 => refine (Kd.R_reads' (e := 162) (base := w.heap.size) (ok := fun k_ => (((True ∧ some k_ ≠ (.slice Ao110 t345.length co110 : Value).ownBlock) ∧ some k_ ≠ (.slice Ao111 t348.length co111 : Value).ownBlock) ∧ some k_ ≠ (.slice Ao123 t356.length co123 : Value).ownBlock)) (n := t352.length) (c := co116) ?_).2.2; exact (by (with_reducible repeat (first | apply Kd.R_alloc | apply Kd.R_drewN | apply Kd.R_drew)); exact (Kd.R_mono (Kd.R_far (p := ⟨gb359, 0, none⟩) (Kd.R_types HO354.out BK359.out (by decide)) (fun _ hk => hk.2) (.slice Ao123 t356.length co123)) (fun _ h_ => h_.1)))); (case side2 => exact (Kd.R_reads' HO354.out).2.1); (case side3 => refine (Kd.R_reads' (e := 162) (base := w.heap.size) (ok := fun k_ => (((True ∧ some k_ ≠ (.slice Ao110 t345.length co110 : Value).ownBlock) ∧ some k_ ≠ (.slice Ao111 t348.length co111 : Value).ownBlock) ∧ some k_ ≠ (.slice Ao116 t352.length co116 : Value).ownBlock)) (n := t356.length) (c := co123) ?_).2.2; exact (by (with_reducible repeat (first | apply Kd.R_alloc | apply Kd.R_drewN | apply Kd.R_drew)); exact (Kd.R_mono (Kd.R_far (p := ⟨gb359, 0, none⟩) (Kd.R_types HO358.out BK359.out (by decide)) (fun _ hk => hk.2) (.slice Ao123 t356.length co123)) (fun _ h_ => h_.1)))); (case side4 => exact (Kd.R_reads' HO358.out).2.1); rintro e w129 ⟨rfl, hb⟩; refine ⟨_, rfl, ?_⟩; have n0_ := Aside0.mk (Kd.R_below (by (with_reducible repeat (first | apply Kd.R_alloc | apply Kd.R_drewN | apply Kd.R_drew)); exact (Kd.R_mono (Kd.R_far (p := ⟨gb359, 0, none⟩) (Kd.R_types HO347.out BK359.out (by decide)) (fun _ hk => hk.2) (.slice Ao123 t356.length co123)) (fun _ h_ => h_.1))) hb); have n1_ := Aside0.mk (Kd.R_below (by (with_reducible repeat (first | apply Kd.R_alloc | apply Kd.R_drewN | apply Kd.R_drew)); exact (Kd.R_mono (Kd.R_far (p := ⟨gb359, 0, none⟩) (Kd.R_types HO350.out BK359.out (by decide)) (fun _ hk => hk.2) (.slice Ao123 t356.length co123)) (fun _ h_ => h_.1))) hb); have n2_ := Aside0.mk (Kd.R_below (by (with_reducible repeat (first | apply Kd.R_alloc | apply Kd.R_drewN | apply Kd.R_drew)); exact (Kd.R_mono (Kd.R_far (p := ⟨gb359, 0, none⟩) (Kd.R_types HO354.out BK359.out (by decide)) (fun _ hk => hk.2) (.slice Ao123 t356.length co123)) (fun _ h_ => h_.1))) hb); have n3_ := Aside0.mk (Kd.R_below (by (with_reducible repeat (first | apply Kd.R_alloc | apply Kd.R_drewN | apply Kd.R_drew)); exact (Kd.R_mono (Kd.R_far (p := ⟨gb359, 0, none⟩) (Kd.R_types HO358.out BK359.out (by decide)) (fun _ hk => hk.2) (.slice Ao123 t356.length co123)) (fun _ h_ => h_.1))) hb); have n4_ := Aside0.mk (blk_below (g := gb341) (o := .cells #[.slice A0_0 l0_0.length c0_0] 78 (0, 0)) bx hb); have n5_ := Aside0.mk (blk_below (g := gb342) (o := .cells #[.slice A1_0 l1_0.length c1_0] 78 (0, 0)) bx hb); have n6_ := Aside0.mk (blk_below (g := gb355) (o := .cells #[.slice Ao116 t352.length co116] 83 (0, 0)) bx hb); have n7_ := Aside0.mk (blk_below (g := gb359) (o := .cells #[.slice Ao123 t356.length co123] 83 (0, 0)) bx hb); have n8_ := Aside0.mk (below_step bw hb); clear HO347; clear HO350; clear HO354; clear HO358; clear BK341; clear BK342; clear BK355; clear BK359; clear HB; have HO347 := n0_; have HO350 := n1_; have HO354 := n2_; have HO358 := n3_; have BK341 := n4_; have BK342 := n5_; have BK355 := n6_; have BK359 := n7_; have HB := n8_; clear n0_ n1_ n2_ n3_ n4_ n5_ n6_ n7_ n8_; (try clear hb); (try clear hb2); (try clear hk); (try clear hi)))
            have n0_ := Aside0.mk (Kd.R_drew HO347.out)
            have n1_ := Aside0.mk (Kd.R_drew HO350.out)
            have n2_ := Aside0.mk (Kd.R_drew HO354.out)
            have n3_ := Aside0.mk (Kd.R_drew HO358.out)
            have n4_ := Aside0.mk (blk_drew BK341.out)
            have n5_ := Aside0.mk (blk_drew BK342.out)
            have n6_ := Aside0.mk (blk_drew BK355.out)
            have n7_ := Aside0.mk (blk_drew BK359.out)
            have n8_ := Aside0.mk (below_drew1 HB.out)
            clear HO347
            clear HO350
            clear HO354
            clear HO358
            clear BK341
            clear BK342
            clear BK355
            clear BK359
            clear HB
            have HO347 := n0_
            have HO350 := n1_
            have HO354 := n2_
            have HO358 := n3_
            have BK341 := n4_
            have BK342 := n5_
            have BK355 := n6_
            have BK359 := n7_
            have HB := n8_
            clear n0_ n1_ n2_ n3_ n4_ n5_ n6_ n7_ n8_
            refine start_ (n := 5) (S := fun w' => w'.cell? ⟨gb355, 0, none⟩ = some (.slice Ao116 t352.length co116) ∧ w'.cell? ⟨gb341, 0, none⟩ = some (.slice A0_0 l0_0.length c0_0)) (ds := []) #[false, false, false, false, false] (by kernel_rfl) rfl rfl ⟨(blk_cell BK355.out 0).trans rfl, (blk_cell BK341.out 0).trans rfl⟩ (fun hHeld => ?_)
            generalize w129.drew = w130 at HO347 HO350 HO354 HO358 BK341 BK342 BK355 BK359 HB hHeld ⊢
            refine take_ (i := 0) (N := some 35) (v := ?_) (a' := ?_) #[true, false, false, false, false] rfl rfl (by kernel_rfl) (fun _ _ _ h => h) (Or.inl ⟨by rfl, ?_⟩) hHeld ?_ ?_
            rotate_left
            · rintro w' ⟨s0, s1⟩
              go_simp
              with_reducible rfl
            rotate_left
            · simp only [Act.put, List.setIfInBounds_toArray, List.set_cons_zero, List.set_cons_succ, i64_w, i32_w]
              rfl
            refine take_ (i := 1) (N := some 36) (v := ?_) (a' := ?_) #[true, true, false, false, false] rfl rfl (by kernel_rfl) (fun _ _ _ h => h) (Or.inl ⟨by rfl, ?_⟩) hHeld ?_ ?_
            rotate_left
            · rintro w' ⟨s0, s1⟩
              go_simp
              with_reducible rfl
            rotate_left
            · simp only [Act.put, List.setIfInBounds_toArray, List.set_cons_zero, List.set_cons_succ, i64_w, i32_w]
              rfl
            refine one_ (i := 2) (N := some 37) #[true, true, true, false, false] rfl rfl (by kernel_rfl) (by decide) (fun K hK => ?_)
            refine goes_ Try.func47 (by kernel_rfl) rfl #[.agg #[.slice A0_0 l0_0.length c0_0]] (by rfl) rfl rfl (by (try simp only [List.map_toArray, List.map_cons, List.map_nil]); first | done | rfl | (simp only [List.length_drop, List.length_take]; rfl)) ?_
            with_reducible refine (laws_toGrammar.calls k _ _ l0_0 t361 _ ?side1 ?side2 A56.out).mono ?_
            (case side1 => exact kb)
            (case side2 => exact HC0_0.out)
            rintro e w131 ⟨v362, rfl, ho0, hb⟩
            refine ⟨_, rfl, ?_⟩
            have n0_ := Aside0.mk (Kd.R_elder' (by (with_reducible repeat (first | apply Kd.R_alloc | apply Kd.R_drewN | apply Kd.R_drew)); exact HO347.out) (Kd.R_base ho0) hb)
            have n1_ := Aside0.mk (Kd.R_elder' (by (with_reducible repeat (first | apply Kd.R_alloc | apply Kd.R_drewN | apply Kd.R_drew)); exact HO350.out) (Kd.R_base ho0) hb)
            have n2_ := Aside0.mk (Kd.R_elder' (by (with_reducible repeat (first | apply Kd.R_alloc | apply Kd.R_drewN | apply Kd.R_drew)); exact HO354.out) (Kd.R_base ho0) hb)
            have n3_ := Aside0.mk (Kd.R_elder' (by (with_reducible repeat (first | apply Kd.R_alloc | apply Kd.R_drewN | apply Kd.R_drew)); exact HO358.out) (Kd.R_base ho0) hb)
            have n4_ := Aside0.mk (Kd.R_lower (Kd.R_new' (Kd.R_new' (Kd.R_new' (Kd.R_new' ho0 (Kd.R_lt (by (with_reducible repeat (first | apply Kd.R_alloc | apply Kd.R_drewN | apply Kd.R_drew)); exact HO347.out))) (Kd.R_lt (by (with_reducible repeat (first | apply Kd.R_alloc | apply Kd.R_drewN | apply Kd.R_drew)); exact HO350.out))) (Kd.R_lt (by (with_reducible repeat (first | apply Kd.R_alloc | apply Kd.R_drewN | apply Kd.R_drew)); exact HO354.out))) (Kd.R_lt (by (with_reducible repeat (first | apply Kd.R_alloc | apply Kd.R_drewN | apply Kd.R_drew)); exact HO358.out))) (below_size bw))
            have n5_ := Aside0.mk (blk_below (g := gb341) (o := .cells #[.slice A0_0 l0_0.length c0_0] 78 (0, 0)) bx hb)
            have n6_ := Aside0.mk (blk_below (g := gb342) (o := .cells #[.slice A1_0 l1_0.length c1_0] 78 (0, 0)) bx hb)
            have n7_ := Aside0.mk (blk_below (g := gb355) (o := .cells #[.slice Ao116 t352.length co116] 83 (0, 0)) bx hb)
            have n8_ := Aside0.mk (blk_below (g := gb359) (o := .cells #[.slice Ao123 t356.length co123] 83 (0, 0)) bx hb)
            have n9_ := Aside0.mk (below_step bw hb)
            clear HO347
            clear HO350
            clear HO354
            clear HO358
            clear BK341
            clear BK342
            clear BK355
            clear BK359
            clear HB
            have HO347 := n0_
            have HO350 := n1_
            have HO354 := n2_
            have HO358 := n3_
            have HO363 := n4_
            have BK341 := n5_
            have BK342 := n6_
            have BK355 := n7_
            have BK359 := n8_
            have HB := n9_
            clear n0_ n1_ n2_ n3_ n4_ n5_ n6_ n7_ n8_ n9_
            (try clear hb)
            (try clear hb2)
            (try clear hk)
            (try clear hi)
            (try clear ho0)
            obtain ⟨Ao132, co132, eo132⟩ := Kd.R_slice HO363.out
            (first | subst eo132 | (injection eo132 with f1_ f2_ f3_; have f4_ := f1_.symm; have f5_ := f3_.symm; clear f1_ f2_ f3_; subst f4_; subst f5_))
            refine hK.out _ _ ⟨(blk_cell BK355.out 0).trans rfl, (blk_cell BK341.out 0).trans rfl⟩ (fun hHeld => ?_)
            clear hK K
            refine norm_ (a' := ?_) ?_ ?_
            rotate_left
            · show Act.put _ (some 37) _ = _
              simp only [Act.put, List.setIfInBounds_toArray, List.set_cons_zero, List.set_cons_succ, i64_w, i32_w]
              rfl
            refine one_ (i := 3) (N := some 38) #[true, true, true, true, false] rfl rfl (by kernel_rfl) (by decide) (fun K hK => ?_)
            refine goes_ Try.func49 (by kernel_rfl) rfl #[.agg #[.slice Ao116 t352.length co116], .agg #[.slice Ao132 t361.length co132]] (by rfl) rfl rfl (by (try simp only [List.map_toArray, List.map_cons, List.map_nil]); first | done | rfl | (simp only [List.length_drop, List.length_take]; rfl)) ?_
            with_reducible refine (laws_eqGrammar.calls k _ _ t352 _ _ t361 true _ ?side1 ?side2 ?side3 ?side4 A57.out).mono ?_
            (case side1 => repeat (first | exact (Kd.R_reads' HO354.out).2.2 | (with_reducible refine Kd.C_alloc ?_ _) | (with_reducible refine Kd.C_drewN ?_ _) | (with_reducible refine Kd.C_drew ?_)))
            (case side2 => exact (Kd.R_reads' HO354.out).2.1)
            (case side3 => repeat (first | exact (Kd.R_reads' HO363.out).2.2 | (with_reducible refine Kd.C_alloc ?_ _) | (with_reducible refine Kd.C_drewN ?_ _) | (with_reducible refine Kd.C_drew ?_)))
            (case side4 => exact (Kd.R_reads' HO363.out).2.1)
            rintro e w133 ⟨rfl, hb⟩
            refine ⟨_, rfl, ?_⟩
            have n0_ := Aside0.mk (Kd.R_below (by (with_reducible repeat (first | apply Kd.R_alloc | apply Kd.R_drewN | apply Kd.R_drew)); exact HO347.out) hb)
            have n1_ := Aside0.mk (Kd.R_below (by (with_reducible repeat (first | apply Kd.R_alloc | apply Kd.R_drewN | apply Kd.R_drew)); exact HO350.out) hb)
            have n2_ := Aside0.mk (Kd.R_below (by (with_reducible repeat (first | apply Kd.R_alloc | apply Kd.R_drewN | apply Kd.R_drew)); exact HO354.out) hb)
            have n3_ := Aside0.mk (Kd.R_below (by (with_reducible repeat (first | apply Kd.R_alloc | apply Kd.R_drewN | apply Kd.R_drew)); exact HO358.out) hb)
            have n4_ := Aside0.mk (Kd.R_below (by (with_reducible repeat (first | apply Kd.R_alloc | apply Kd.R_drewN | apply Kd.R_drew)); exact HO363.out) hb)
            have n5_ := Aside0.mk (blk_below (g := gb341) (o := .cells #[.slice A0_0 l0_0.length c0_0] 78 (0, 0)) bx hb)
            have n6_ := Aside0.mk (blk_below (g := gb342) (o := .cells #[.slice A1_0 l1_0.length c1_0] 78 (0, 0)) bx hb)
            have n7_ := Aside0.mk (blk_below (g := gb355) (o := .cells #[.slice Ao116 t352.length co116] 83 (0, 0)) bx hb)
            have n8_ := Aside0.mk (blk_below (g := gb359) (o := .cells #[.slice Ao123 t356.length co123] 83 (0, 0)) bx hb)
            have n9_ := Aside0.mk (below_step bw hb)
            clear HO347
            clear HO350
            clear HO354
            clear HO358
            clear HO363
            clear BK341
            clear BK342
            clear BK355
            clear BK359
            clear HB
            have HO347 := n0_
            have HO350 := n1_
            have HO354 := n2_
            have HO358 := n3_
            have HO363 := n4_
            have BK341 := n5_
            have BK342 := n6_
            have BK355 := n7_
            have BK359 := n8_
            have HB := n9_
            clear n0_ n1_ n2_ n3_ n4_ n5_ n6_ n7_ n8_ n9_
            (try clear hb)
            (try clear hb2)
            (try clear hk)
            (try clear hi)
            refine hK.out _ _ ⟨(blk_cell BK355.out 0).trans rfl, (blk_cell BK341.out 0).trans rfl⟩ (fun hHeld => ?_)
            clear hK K
            refine norm_ (a' := ?_) ?_ ?_
            rotate_left
            · show Act.put _ (some 38) _ = _
              simp only [Act.put, List.setIfInBounds_toArray, List.set_cons_zero, List.set_cons_succ, i64_w, i32_w]
              rfl
            refine pure_ (i := 4) (N := some 39) (v := ?_) (a' := ?_) #[true, true, true, true, true] rfl rfl (by kernel_rfl) (fun _ _ _ h => h) (Or.inl ⟨by rfl, ?_⟩) ?_ ?_
            rotate_left
            · intro w'
              go_simp
              with_reducible rfl
            rotate_left
            · simp only [Act.put, List.setIfInBounds_toArray, List.set_cons_zero, List.set_cons_succ, i64_w, i32_w]
              rfl
            refine done_ (by kernel_rfl) ?_
            try go_wp2
            have n0_ := Aside0.mk (Kd.R_drew HO347.out)
            have n1_ := Aside0.mk (Kd.R_drew HO350.out)
            have n2_ := Aside0.mk (Kd.R_drew HO354.out)
            have n3_ := Aside0.mk (Kd.R_drew HO358.out)
            have n4_ := Aside0.mk (Kd.R_drew HO363.out)
            have n5_ := Aside0.mk (blk_drew BK341.out)
            have n6_ := Aside0.mk (blk_drew BK342.out)
            have n7_ := Aside0.mk (blk_drew BK355.out)
            have n8_ := Aside0.mk (blk_drew BK359.out)
            have n9_ := Aside0.mk (below_drew1 HB.out)
            clear HO347
            clear HO350
            clear HO354
            clear HO358
            clear HO363
            clear BK341
            clear BK342
            clear BK355
            clear BK359
            clear HB
            have HO347 := n0_
            have HO350 := n1_
            have HO354 := n2_
            have HO358 := n3_
            have HO363 := n4_
            have BK341 := n5_
            have BK342 := n6_
            have BK355 := n7_
            have BK359 := n8_
            have HB := n9_
            clear n0_ n1_ n2_ n3_ n4_ n5_ n6_ n7_ n8_ n9_
            refine start_ (n := 5) (S := fun w' => w'.cell? ⟨gb359, 0, none⟩ = some (.slice Ao123 t356.length co123) ∧ w'.cell? ⟨gb342, 0, none⟩ = some (.slice A1_0 l1_0.length c1_0)) (ds := []) #[false, false, false, false, false] (by kernel_rfl) rfl rfl ⟨(blk_cell BK359.out 0).trans rfl, (blk_cell BK342.out 0).trans rfl⟩ (fun hHeld => ?_)
            generalize w133.drew = w134 at HO347 HO350 HO354 HO358 HO363 BK341 BK342 BK355 BK359 HB hHeld ⊢
            refine take_ (i := 0) (N := some 40) (v := ?_) (a' := ?_) #[true, false, false, false, false] rfl rfl (by kernel_rfl) (fun _ _ _ h => h) (Or.inl ⟨by rfl, ?_⟩) hHeld ?_ ?_
            rotate_left
            · rintro w' ⟨s0, s1⟩
              go_simp
              with_reducible rfl
            rotate_left
            · simp only [Act.put, List.setIfInBounds_toArray, List.set_cons_zero, List.set_cons_succ, i64_w, i32_w]
              rfl
            refine take_ (i := 1) (N := some 41) (v := ?_) (a' := ?_) #[true, true, false, false, false] rfl rfl (by kernel_rfl) (fun _ _ _ h => h) (Or.inl ⟨by rfl, ?_⟩) hHeld ?_ ?_
            rotate_left
            · rintro w' ⟨s0, s1⟩
              go_simp
              with_reducible rfl
            rotate_left
            · simp only [Act.put, List.setIfInBounds_toArray, List.set_cons_zero, List.set_cons_succ, i64_w, i32_w]
              rfl
            refine one_ (i := 2) (N := some 42) #[true, true, true, false, false] rfl rfl (by kernel_rfl) (by decide) (fun K hK => ?_)
            refine goes_ Try.func47 (by kernel_rfl) rfl #[.agg #[.slice A1_0 l1_0.length c1_0]] (by rfl) rfl rfl (by (try simp only [List.map_toArray, List.map_cons, List.map_nil]); first | done | rfl | (simp only [List.length_drop, List.length_take]; rfl)) ?_
            with_reducible refine (laws_toGrammar.calls k _ _ l1_0 t365 _ ?side1 ?side2 A59.out).mono ?_
            (case side1 => exact kb)
            (case side2 => exact HC1_0.out)
            rintro e w135 ⟨v366, rfl, ho0, hb⟩
            refine ⟨_, rfl, ?_⟩
            have n0_ := Aside0.mk (Kd.R_elder' (by (with_reducible repeat (first | apply Kd.R_alloc | apply Kd.R_drewN | apply Kd.R_drew)); exact HO347.out) (Kd.R_base ho0) hb)
            have n1_ := Aside0.mk (Kd.R_elder' (by (with_reducible repeat (first | apply Kd.R_alloc | apply Kd.R_drewN | apply Kd.R_drew)); exact HO350.out) (Kd.R_base ho0) hb)
            have n2_ := Aside0.mk (Kd.R_elder' (by (with_reducible repeat (first | apply Kd.R_alloc | apply Kd.R_drewN | apply Kd.R_drew)); exact HO354.out) (Kd.R_base ho0) hb)
            have n3_ := Aside0.mk (Kd.R_elder' (by (with_reducible repeat (first | apply Kd.R_alloc | apply Kd.R_drewN | apply Kd.R_drew)); exact HO358.out) (Kd.R_base ho0) hb)
            have n4_ := Aside0.mk (Kd.R_elder' (by (with_reducible repeat (first | apply Kd.R_alloc | apply Kd.R_drewN | apply Kd.R_drew)); exact HO363.out) (Kd.R_base ho0) hb)
            have n5_ := Aside0.mk (Kd.R_lower (Kd.R_new' (Kd.R_new' (Kd.R_new' (Kd.R_new' (Kd.R_new' ho0 (Kd.R_lt (by (with_reducible repeat (first | apply Kd.R_alloc | apply Kd.R_drewN | apply Kd.R_drew)); exact HO347.out))) (Kd.R_lt (by (with_reducible repeat (first | apply Kd.R_alloc | apply Kd.R_drewN | apply Kd.R_drew)); exact HO350.out))) (Kd.R_lt (by (with_reducible repeat (first | apply Kd.R_alloc | apply Kd.R_drewN | apply Kd.R_drew)); exact HO354.out))) (Kd.R_lt (by (with_reducible repeat (first | apply Kd.R_alloc | apply Kd.R_drewN | apply Kd.R_drew)); exact HO358.out))) (Kd.R_lt (by (with_reducible repeat (first | apply Kd.R_alloc | apply Kd.R_drewN | apply Kd.R_drew)); exact HO363.out))) (below_size bw))
            have n6_ := Aside0.mk (blk_below (g := gb341) (o := .cells #[.slice A0_0 l0_0.length c0_0] 78 (0, 0)) bx hb)
            have n7_ := Aside0.mk (blk_below (g := gb342) (o := .cells #[.slice A1_0 l1_0.length c1_0] 78 (0, 0)) bx hb)
            have n8_ := Aside0.mk (blk_below (g := gb355) (o := .cells #[.slice Ao116 t352.length co116] 83 (0, 0)) bx hb)
            have n9_ := Aside0.mk (blk_below (g := gb359) (o := .cells #[.slice Ao123 t356.length co123] 83 (0, 0)) bx hb)
            have n10_ := Aside0.mk (below_step bw hb)
            clear HO347
            clear HO350
            clear HO354
            clear HO358
            clear HO363
            clear BK341
            clear BK342
            clear BK355
            clear BK359
            clear HB
            have HO347 := n0_
            have HO350 := n1_
            have HO354 := n2_
            have HO358 := n3_
            have HO363 := n4_
            have HO367 := n5_
            have BK341 := n6_
            have BK342 := n7_
            have BK355 := n8_
            have BK359 := n9_
            have HB := n10_
            clear n0_ n1_ n2_ n3_ n4_ n5_ n6_ n7_ n8_ n9_ n10_
            (try clear hb)
            (try clear hb2)
            (try clear hk)
            (try clear hi)
            (try clear ho0)
            obtain ⟨Ao136, co136, eo136⟩ := Kd.R_slice HO367.out
            (first | subst eo136 | (injection eo136 with f1_ f2_ f3_; have f4_ := f1_.symm; have f5_ := f3_.symm; clear f1_ f2_ f3_; subst f4_; subst f5_))
            refine hK.out _ _ ⟨(blk_cell BK359.out 0).trans rfl, (blk_cell BK342.out 0).trans rfl⟩ (fun hHeld => ?_)
            clear hK K
            refine norm_ (a' := ?_) ?_ ?_
            rotate_left
            · show Act.put _ (some 42) _ = _
              simp only [Act.put, List.setIfInBounds_toArray, List.set_cons_zero, List.set_cons_succ, i64_w, i32_w]
              rfl
            refine one_ (i := 3) (N := some 43) #[true, true, true, true, false] rfl rfl (by kernel_rfl) (by decide) (fun K hK => ?_)
            refine goes_ Try.func49 (by kernel_rfl) rfl #[.agg #[.slice Ao123 t356.length co123], .agg #[.slice Ao136 t365.length co136]] (by rfl) rfl rfl (by (try simp only [List.map_toArray, List.map_cons, List.map_nil]); first | done | rfl | (simp only [List.length_drop, List.length_take]; rfl)) ?_
            with_reducible refine (laws_eqGrammar.calls k _ _ t356 _ _ t365 false _ ?side1 ?side2 ?side3 ?side4 A60.out).mono ?_
            (case side1 => repeat (first | exact (Kd.R_reads' HO358.out).2.2 | (with_reducible refine Kd.C_alloc ?_ _) | (with_reducible refine Kd.C_drewN ?_ _) | (with_reducible refine Kd.C_drew ?_)))
            (case side2 => exact (Kd.R_reads' HO358.out).2.1)
            (case side3 => repeat (first | exact (Kd.R_reads' HO367.out).2.2 | (with_reducible refine Kd.C_alloc ?_ _) | (with_reducible refine Kd.C_drewN ?_ _) | (with_reducible refine Kd.C_drew ?_)))
            (case side4 => exact (Kd.R_reads' HO367.out).2.1)
            rintro e w137 ⟨rfl, hb⟩
            refine ⟨_, rfl, ?_⟩
            have n0_ := Aside0.mk (Kd.R_below (by (with_reducible repeat (first | apply Kd.R_alloc | apply Kd.R_drewN | apply Kd.R_drew)); exact HO347.out) hb)
            have n1_ := Aside0.mk (Kd.R_below (by (with_reducible repeat (first | apply Kd.R_alloc | apply Kd.R_drewN | apply Kd.R_drew)); exact HO350.out) hb)
            have n2_ := Aside0.mk (Kd.R_below (by (with_reducible repeat (first | apply Kd.R_alloc | apply Kd.R_drewN | apply Kd.R_drew)); exact HO354.out) hb)
            have n3_ := Aside0.mk (Kd.R_below (by (with_reducible repeat (first | apply Kd.R_alloc | apply Kd.R_drewN | apply Kd.R_drew)); exact HO358.out) hb)
            have n4_ := Aside0.mk (Kd.R_below (by (with_reducible repeat (first | apply Kd.R_alloc | apply Kd.R_drewN | apply Kd.R_drew)); exact HO363.out) hb)
            have n5_ := Aside0.mk (Kd.R_below (by (with_reducible repeat (first | apply Kd.R_alloc | apply Kd.R_drewN | apply Kd.R_drew)); exact HO367.out) hb)
            have n6_ := Aside0.mk (blk_below (g := gb341) (o := .cells #[.slice A0_0 l0_0.length c0_0] 78 (0, 0)) bx hb)
            have n7_ := Aside0.mk (blk_below (g := gb342) (o := .cells #[.slice A1_0 l1_0.length c1_0] 78 (0, 0)) bx hb)
            have n8_ := Aside0.mk (blk_below (g := gb355) (o := .cells #[.slice Ao116 t352.length co116] 83 (0, 0)) bx hb)
            have n9_ := Aside0.mk (blk_below (g := gb359) (o := .cells #[.slice Ao123 t356.length co123] 83 (0, 0)) bx hb)
            have n10_ := Aside0.mk (below_step bw hb)
            clear HO347
            clear HO350
            clear HO354
            clear HO358
            clear HO363
            clear HO367
            clear BK341
            clear BK342
            clear BK355
            clear BK359
            clear HB
            have HO347 := n0_
            have HO350 := n1_
            have HO354 := n2_
            have HO358 := n3_
            have HO363 := n4_
            have HO367 := n5_
            have BK341 := n6_
            have BK342 := n7_
            have BK355 := n8_
            have BK359 := n9_
            have HB := n10_
            clear n0_ n1_ n2_ n3_ n4_ n5_ n6_ n7_ n8_ n9_ n10_
            (try clear hb)
            (try clear hb2)
            (try clear hk)
            (try clear hi)
            refine hK.out _ _ ⟨(blk_cell BK359.out 0).trans rfl, (blk_cell BK342.out 0).trans rfl⟩ (fun hHeld => ?_)
            clear hK K
            refine norm_ (a' := ?_) ?_ ?_
            rotate_left
            · show Act.put _ (some 43) _ = _
              simp only [Act.put, List.setIfInBounds_toArray, List.set_cons_zero, List.set_cons_succ, i64_w, i32_w]
              rfl
            refine pure_ (i := 4) (N := some 44) (v := ?_) (a' := ?_) #[true, true, true, true, true] rfl rfl (by kernel_rfl) (fun _ _ _ h => h) (Or.inl ⟨by rfl, ?_⟩) ?_ ?_
            rotate_left
            · intro w'
              go_simp
              with_reducible rfl
            rotate_left
            · simp only [Act.put, List.setIfInBounds_toArray, List.set_cons_zero, List.set_cons_succ, i64_w, i32_w]
              rfl
            refine done_ (by kernel_rfl) ?_
            try go_wp2
            go_ret
            exact ⟨by first | rfl | (simp [errW_none, errW_some] <;> rfl) | (simp [*, errW_none, errW_some] <;> rfl), by repeat (first | (with_reducible first | exact HB.out | apply below_alloc | apply pw_below_drewN | apply below_drew1 | refine below_set ?_ GE341.out | refine below_set ?_ GE342.out | refine below_set ?_ GE355.out | refine below_set ?_ GE359.out) | exact HB.out)⟩
        · replace c58 := Bool.eq_false_iff.mpr c58
          subst c58
          have H1 : (some false) = some r := by rw [if_neg (show ¬ (false = true) by decide)] at H; exact H
          clear H
          have H := H1
          clear H1
          obtain rfl := Option.some.inj H
          go_enter Try.func11, Try.ntmps11
          try go_wp2_with (first | ((with_reducible refine gate_dst (N := 2) rfl ?_); refine box_event ?hg (N := 2) ?hd (cs := #[.slice A0_0 l0_0.length c0_0]) (t := 78) ?hr ?_; (case hd => rfl); (case hg => rfl); (case hr => first | (go_simp; done) | (go_simp; rfl)); intro gb341 hg w138 hbox hb; have n0_ := Aside0.mk (below_step bw hb); have n1_ := Aside0.mk (hbox); have n2_ := Aside0.mk ((bz bw hg : w.heap.size ≤ gb341)); have n3_ := Aside0.mk ((bz bw hg : w.heap.size ≤ gb341)); clear HB; have HB := n0_; have BK341 := n1_; have GW341 := n2_; have GE341 := n3_; clear n0_ n1_ n2_ n3_; clear hb hbox hg) | ((with_reducible refine gate_dst (N := 3) rfl ?_); refine box_event ?hg (N := 3) ?hd (cs := #[.slice A1_0 l1_0.length c1_0]) (t := 78) ?hr ?_; (case hd => rfl); (case hg => rfl); (case hr => first | (go_simp; done) | (go_simp; rfl)); intro gb342 hg w139 hbox hb; have n0_ := Aside0.mk (blk_below (g := gb341) (o := .cells #[.slice A0_0 l0_0.length c0_0] 78 (0, 0)) bx hb); have n1_ := Aside0.mk (below_step bw hb); have n2_ := Aside0.mk (hbox); have n3_ := Aside0.mk ((bz bw hg : w.heap.size ≤ gb342)); have n4_ := Aside0.mk ((bz bw hg : w.heap.size ≤ gb342)); have n5_ := Aside0.mk ((bl bx hg : gb341 ≠ gb342)); have n6_ := Aside0.mk ((bl' bx hg : gb342 ≠ gb341)); clear BK341; clear HB; have BK341 := n0_; have HB := n1_; have BK342 := n2_; have GW342 := n3_; have GE342 := n4_; have NB341_342 := n5_; have NB342_341 := n6_; clear n0_ n1_ n2_ n3_ n4_ n5_ n6_; clear hb hbox hg; have hnb140 := NB341_342.out; have hnc140 := NB342_341.out; obtain ⟨hcz141_0, hfz141_0⟩ := bc1 BK341.out) | ((with_reducible refine gate_callee (f := 45) rfl ?_); refine goesL_ (some 12) rfl rfl Try.func45 (by kernel_rfl) rfl #[.agg #[.slice A0_0 l0_0.length c0_0], .int .i64 1048576] rfl (by (try simp only [List.map_toArray, List.map_cons, List.map_nil]); first | done | rfl | (simp only [List.length_drop, List.length_take]; rfl)) ?_; (with_reducible refine (laws_szGrammar.calls k _ _ l0_0 1048576 t343 _ ?side1 ?side2 A3.out).mono ?_); (case side1 => exact kb); (case side2 => exact HC0_0.out); rintro e w142 ⟨rfl, hb⟩; refine ⟨_, rfl, ?_⟩; have n0_ := Aside0.mk (blk_below (g := gb341) (o := .cells #[.slice A0_0 l0_0.length c0_0] 78 (0, 0)) bx hb); have n1_ := Aside0.mk (blk_below (g := gb342) (o := .cells #[.slice A1_0 l1_0.length c1_0] 78 (0, 0)) bx hb); have n2_ := Aside0.mk (below_step bw hb); clear BK341; clear BK342; clear HB; have BK341 := n0_; have BK342 := n1_; have HB := n2_; clear n0_ n1_ n2_; (try clear hb); (try clear hb2); (try clear hk); (try clear hi); obtain ⟨hcz143_0, hfz143_0⟩ := bc1 BK342.out) | ((with_reducible refine gate_callee (f := 45) rfl ?_); refine goesL_ (some 17) rfl rfl Try.func45 (by kernel_rfl) rfl #[.agg #[.slice A1_0 l1_0.length c1_0], .int .i64 t343] rfl (by (try simp only [List.map_toArray, List.map_cons, List.map_nil]); first | done | rfl | (simp only [List.length_drop, List.length_take]; rfl)) ?_; (with_reducible refine (laws_szGrammar.calls k _ _ l1_0 t343 t344 _ ?side1 ?side2 A10.out).mono ?_); (case side1 => exact kb); (case side2 => exact HC1_0.out); rintro e w144 ⟨rfl, hb⟩; refine ⟨_, rfl, ?_⟩; have n0_ := Aside0.mk (blk_below (g := gb341) (o := .cells #[.slice A0_0 l0_0.length c0_0] 78 (0, 0)) bx hb); have n1_ := Aside0.mk (blk_below (g := gb342) (o := .cells #[.slice A1_0 l1_0.length c1_0] 78 (0, 0)) bx hb); have n2_ := Aside0.mk (below_step bw hb); clear BK341; clear BK342; clear HB; have BK341 := n0_; have BK342 := n1_; have HB := n2_; clear n0_ n1_ n2_; (try clear hb); (try clear hb2); (try clear hk); (try clear hi)))
          have n0_ := Aside0.mk (blk_drew BK341.out)
          have n1_ := Aside0.mk (blk_drew BK342.out)
          have n2_ := Aside0.mk (below_drew1 HB.out)
          clear BK341
          clear BK342
          clear HB
          have BK341 := n0_
          have BK342 := n1_
          have HB := n2_
          clear n0_ n1_ n2_
          refine start_ (n := 6) (S := fun w' => w'.cell? ⟨gb341, 0, none⟩ = some (.slice A0_0 l0_0.length c0_0) ∧ w'.cell? ⟨gb342, 0, none⟩ = some (.slice A1_0 l1_0.length c1_0)) (ds := []) #[false, false, false, false, false, false] (by kernel_rfl) rfl rfl ⟨(blk_cell BK341.out 0).trans rfl, (blk_cell BK342.out 0).trans rfl⟩ (fun hHeld => ?_)
          generalize w144.drew = w145 at BK341 BK342 HB hHeld ⊢
          refine take_ (i := 0) (N := some 20) (v := ?_) (a' := ?_) #[true, false, false, false, false, false] rfl rfl (by kernel_rfl) (fun _ _ _ h => h) (Or.inl ⟨by rfl, ?_⟩) hHeld ?_ ?_
          rotate_left
          · rintro w' ⟨s0, s1⟩
            go_simp
            with_reducible rfl
          rotate_left
          · simp only [Act.put, List.setIfInBounds_toArray, List.set_cons_zero, List.set_cons_succ, i64_w, i32_w]
            rfl
          refine take_ (i := 2) (N := some 22) (v := ?_) (a' := ?_) #[true, false, true, false, false, false] rfl rfl (by kernel_rfl) (fun _ _ _ h => h) (Or.inl ⟨by rfl, ?_⟩) hHeld ?_ ?_
          rotate_left
          · rintro w' ⟨s0, s1⟩
            go_simp
            with_reducible rfl
          rotate_left
          · simp only [Act.put, List.setIfInBounds_toArray, List.set_cons_zero, List.set_cons_succ, i64_w, i32_w]
            rfl
          refine one_ (i := 1) (N := some 21) #[true, true, true, false, false, false] rfl rfl (by kernel_rfl) (by decide) (fun K hK => ?_)
          refine goes_ Try.func47 (by kernel_rfl) rfl #[.agg #[.slice A0_0 l0_0.length c0_0]] (by rfl) rfl rfl (by (try simp only [List.map_toArray, List.map_cons, List.map_nil]); first | done | rfl | (simp only [List.length_drop, List.length_take]; rfl)) ?_
          with_reducible refine (laws_toGrammar.calls k _ _ l0_0 t345 _ ?side1 ?side2 A19.out).mono ?_
          (case side1 => exact kb)
          (case side2 => exact HC0_0.out)
          rintro e w146 ⟨v346, rfl, ho0, hb⟩
          refine ⟨_, rfl, ?_⟩
          have n0_ := Aside0.mk (Kd.R_lower ho0 (below_size bw))
          have n1_ := Aside0.mk (blk_below (g := gb341) (o := .cells #[.slice A0_0 l0_0.length c0_0] 78 (0, 0)) bx hb)
          have n2_ := Aside0.mk (blk_below (g := gb342) (o := .cells #[.slice A1_0 l1_0.length c1_0] 78 (0, 0)) bx hb)
          have n3_ := Aside0.mk (below_step bw hb)
          clear BK341
          clear BK342
          clear HB
          have HO347 := n0_
          have BK341 := n1_
          have BK342 := n2_
          have HB := n3_
          clear n0_ n1_ n2_ n3_
          (try clear hb)
          (try clear hb2)
          (try clear hk)
          (try clear hi)
          (try clear ho0)
          refine hK.out _ _ ⟨(blk_cell BK341.out 0).trans rfl, (blk_cell BK342.out 0).trans rfl⟩ (fun hHeld => ?_)
          clear hK K
          refine norm_ (a' := ?_) ?_ ?_
          rotate_left
          · show Act.put _ (some 21) _ = _
            simp only [Act.put, List.setIfInBounds_toArray, List.set_cons_zero, List.set_cons_succ, i64_w, i32_w]
            rfl
          refine one_ (i := 3) (N := some 23) #[true, true, true, true, false, false] rfl rfl (by kernel_rfl) (by decide) (fun K hK => ?_)
          refine goes_ Try.func47 (by kernel_rfl) rfl #[.agg #[.slice A1_0 l1_0.length c1_0]] (by rfl) rfl rfl (by (try simp only [List.map_toArray, List.map_cons, List.map_nil]); first | done | rfl | (simp only [List.length_drop, List.length_take]; rfl)) ?_
          with_reducible refine (laws_toGrammar.calls k _ _ l1_0 t348 _ ?side1 ?side2 A20.out).mono ?_
          (case side1 => exact kb)
          (case side2 => exact HC1_0.out)
          rintro e w147 ⟨v349, rfl, ho0, hb⟩
          refine ⟨_, rfl, ?_⟩
          have n0_ := Aside0.mk (Kd.R_elder' (by (with_reducible repeat (first | apply Kd.R_alloc | apply Kd.R_drewN | apply Kd.R_drew)); exact HO347.out) (Kd.R_base ho0) hb)
          have n1_ := Aside0.mk (Kd.R_lower (Kd.R_new' ho0 (Kd.R_lt (by (with_reducible repeat (first | apply Kd.R_alloc | apply Kd.R_drewN | apply Kd.R_drew)); exact HO347.out))) (below_size bw))
          have n2_ := Aside0.mk (blk_below (g := gb341) (o := .cells #[.slice A0_0 l0_0.length c0_0] 78 (0, 0)) bx hb)
          have n3_ := Aside0.mk (blk_below (g := gb342) (o := .cells #[.slice A1_0 l1_0.length c1_0] 78 (0, 0)) bx hb)
          have n4_ := Aside0.mk (below_step bw hb)
          clear HO347
          clear BK341
          clear BK342
          clear HB
          have HO347 := n0_
          have HO350 := n1_
          have BK341 := n2_
          have BK342 := n3_
          have HB := n4_
          clear n0_ n1_ n2_ n3_ n4_
          (try clear hb)
          (try clear hb2)
          (try clear hk)
          (try clear hi)
          (try clear ho0)
          obtain ⟨Ao148, co148, eo148⟩ := Kd.R_slice HO347.out
          (first | subst eo148 | (injection eo148 with f1_ f2_ f3_; have f4_ := f1_.symm; have f5_ := f3_.symm; clear f1_ f2_ f3_; subst f4_; subst f5_))
          obtain ⟨Ao149, co149, eo149⟩ := Kd.R_slice HO350.out
          (first | subst eo149 | (injection eo149 with f1_ f2_ f3_; have f4_ := f1_.symm; have f5_ := f3_.symm; clear f1_ f2_ f3_; subst f4_; subst f5_))
          refine hK.out _ _ ⟨(blk_cell BK341.out 0).trans rfl, (blk_cell BK342.out 0).trans rfl⟩ (fun hHeld => ?_)
          clear hK K
          refine norm_ (a' := ?_) ?_ ?_
          rotate_left
          · show Act.put _ (some 23) _ = _
            simp only [Act.put, List.setIfInBounds_toArray, List.set_cons_zero, List.set_cons_succ, i64_w, i32_w]
            rfl
          refine one_ (i := 4) (N := some 24) #[true, true, true, true, true, false] rfl rfl (by kernel_rfl) (by decide) (fun K hK => ?_)
          refine goes_ Try.func46 (by kernel_rfl) rfl #[.agg #[.slice Ao148 t345.length co148], .agg #[.slice Ao149 t348.length co149]] (by rfl) rfl rfl (by (try simp only [List.map_toArray, List.map_cons, List.map_nil]); first | done | rfl | (simp only [List.length_drop, List.length_take]; rfl)) ?_
          with_reducible refine (spec_SameGrammar.calls k _ _ t345 _ _ t348 t351 _ ?side1 ?side2 ?side3 ?side4 A21.out).mono ?_
          (case side1 => repeat (first | exact (Kd.R_reads' HO347.out).2.2 | (with_reducible refine Kd.C_alloc ?_ _) | (with_reducible refine Kd.C_drewN ?_ _) | (with_reducible refine Kd.C_drew ?_)))
          (case side2 => exact (Kd.R_reads' HO347.out).2.1)
          (case side3 => repeat (first | exact (Kd.R_reads' HO350.out).2.2 | (with_reducible refine Kd.C_alloc ?_ _) | (with_reducible refine Kd.C_drewN ?_ _) | (with_reducible refine Kd.C_drew ?_)))
          (case side4 => exact (Kd.R_reads' HO350.out).2.1)
          rintro e w150 ⟨rfl, hb⟩
          refine ⟨_, rfl, ?_⟩
          have n0_ := Aside0.mk (Kd.R_below (by (with_reducible repeat (first | apply Kd.R_alloc | apply Kd.R_drewN | apply Kd.R_drew)); exact HO347.out) hb)
          have n1_ := Aside0.mk (Kd.R_below (by (with_reducible repeat (first | apply Kd.R_alloc | apply Kd.R_drewN | apply Kd.R_drew)); exact HO350.out) hb)
          have n2_ := Aside0.mk (blk_below (g := gb341) (o := .cells #[.slice A0_0 l0_0.length c0_0] 78 (0, 0)) bx hb)
          have n3_ := Aside0.mk (blk_below (g := gb342) (o := .cells #[.slice A1_0 l1_0.length c1_0] 78 (0, 0)) bx hb)
          have n4_ := Aside0.mk (below_step bw hb)
          clear HO347
          clear HO350
          clear BK341
          clear BK342
          clear HB
          have HO347 := n0_
          have HO350 := n1_
          have BK341 := n2_
          have BK342 := n3_
          have HB := n4_
          clear n0_ n1_ n2_ n3_ n4_
          (try clear hb)
          (try clear hb2)
          (try clear hk)
          (try clear hi)
          refine hK.out _ _ ⟨(blk_cell BK341.out 0).trans rfl, (blk_cell BK342.out 0).trans rfl⟩ (fun hHeld => ?_)
          clear hK K
          refine norm_ (a' := ?_) ?_ ?_
          rotate_left
          · show Act.put _ (some 24) _ = _
            simp only [Act.put, List.setIfInBounds_toArray, List.set_cons_zero, List.set_cons_succ, i64_w, i32_w]
            rfl
          refine pure_ (i := 5) (N := some 6) (v := ?_) (a' := ?_) #[true, true, true, true, true, true] rfl rfl (by kernel_rfl) (fun _ _ _ h => h) (Or.inl ⟨by rfl, ?_⟩) ?_ ?_
          rotate_left
          · intro w'
            go_simp
            with_reducible rfl
          rotate_left
          · simp only [Act.put, List.setIfInBounds_toArray, List.set_cons_zero, List.set_cons_succ, i64_w, i32_w]
            rfl
          refine done_ (by kernel_rfl) ?_
          obtain ⟨hcz151_0, hfz151_0⟩ := bc1 BK341.out
          try go_wp2_with (first | ((with_reducible refine gate_callee (f := 47) rfl ?_); refine goesL_ (some 26) rfl rfl Try.func47 (by kernel_rfl) rfl #[.agg #[.slice A0_0 l0_0.length c0_0]] rfl (by (try simp only [List.map_toArray, List.map_cons, List.map_nil]); first | done | rfl | (simp only [List.length_drop, List.length_take]; rfl)) ?_; (with_reducible refine (laws_toGrammar.calls k _ _ l0_0 t352 _ ?side1 ?side2 A22.out).mono ?_); (case side1 => exact kb); (case side2 => exact HC0_0.out); rintro e w152 ⟨v353, rfl, ho0, hb⟩; refine ⟨_, rfl, ?_⟩; have n0_ := Aside0.mk (Kd.R_elder' (by (with_reducible repeat (first | apply Kd.R_alloc | apply Kd.R_drewN | apply Kd.R_drew)); exact HO347.out) (Kd.R_base ho0) hb); have n1_ := Aside0.mk (Kd.R_elder' (by (with_reducible repeat (first | apply Kd.R_alloc | apply Kd.R_drewN | apply Kd.R_drew)); exact HO350.out) (Kd.R_base ho0) hb); have n2_ := Aside0.mk (Kd.R_lower (Kd.R_new' (Kd.R_new' ho0 (Kd.R_lt (by (with_reducible repeat (first | apply Kd.R_alloc | apply Kd.R_drewN | apply Kd.R_drew)); exact HO347.out))) (Kd.R_lt (by (with_reducible repeat (first | apply Kd.R_alloc | apply Kd.R_drewN | apply Kd.R_drew)); exact HO350.out))) (below_size bw)); have n3_ := Aside0.mk (blk_below (g := gb341) (o := .cells #[.slice A0_0 l0_0.length c0_0] 78 (0, 0)) bx hb); have n4_ := Aside0.mk (blk_below (g := gb342) (o := .cells #[.slice A1_0 l1_0.length c1_0] 78 (0, 0)) bx hb); have n5_ := Aside0.mk (below_step bw hb); clear HO347; clear HO350; clear BK341; clear BK342; clear HB; have HO347 := n0_; have HO350 := n1_; have HO354 := n2_; have BK341 := n3_; have BK342 := n4_; have HB := n5_; clear n0_ n1_ n2_ n3_ n4_ n5_; (try clear hb); (try clear hb2); (try clear hk); (try clear hi); (try clear ho0)) | ((with_reducible refine gate_dst (N := 7) rfl ?_); refine box_event ?hg (N := 7) ?hd (cs := #[.slice none 0 0]) (t := 83) ?hr ?_; (case hd => rfl); (case hg => rfl); (case hr => first | (go_simp; done) | (go_simp; rfl)); intro gb355 hg w153 hbox hb; have n0_ := Aside0.mk (Kd.R_below (by (with_reducible repeat (first | apply Kd.R_alloc | apply Kd.R_drewN | apply Kd.R_drew)); exact HO347.out) hb); have n1_ := Aside0.mk (Kd.R_below (by (with_reducible repeat (first | apply Kd.R_alloc | apply Kd.R_drewN | apply Kd.R_drew)); exact HO350.out) hb); have n2_ := Aside0.mk (Kd.R_below (by (with_reducible repeat (first | apply Kd.R_alloc | apply Kd.R_drewN | apply Kd.R_drew)); exact HO354.out) hb); have n3_ := Aside0.mk (blk_below (g := gb341) (o := .cells #[.slice A0_0 l0_0.length c0_0] 78 (0, 0)) bx hb); have n4_ := Aside0.mk (blk_below (g := gb342) (o := .cells #[.slice A1_0 l1_0.length c1_0] 78 (0, 0)) bx hb); have n5_ := Aside0.mk (below_step bw hb); have n6_ := Aside0.mk (hbox); have n7_ := Aside0.mk ((bz bw hg : w.heap.size ≤ gb355)); have n8_ := Aside0.mk ((bz bw hg : w.heap.size ≤ gb355)); have n9_ := Aside0.mk ((bl bx hg : gb341 ≠ gb355)); have n10_ := Aside0.mk ((bl' bx hg : gb355 ≠ gb341)); have n11_ := Aside0.mk ((bl bx hg : gb342 ≠ gb355)); have n12_ := Aside0.mk ((bl' bx hg : gb355 ≠ gb342)); clear HO347; clear HO350; clear HO354; clear BK341; clear BK342; clear HB; have HO347 := n0_; have HO350 := n1_; have HO354 := n2_; have BK341 := n3_; have BK342 := n4_; have HB := n5_; have BK355 := n6_; have GW355 := n7_; have GE355 := n8_; have NB341_355 := n9_; have NB355_341 := n10_; have NB342_355 := n11_; have NB355_342 := n12_; clear n0_ n1_ n2_ n3_ n4_ n5_ n6_ n7_ n8_ n9_ n10_ n11_ n12_; clear hb hbox hg; obtain ⟨Ao154, co154, eo154⟩ := Kd.R_slice HO354.out; subst eo154; have hnb155 := NB355_341.out; have hnc155 := NB341_355.out; have hnb156 := NB355_342.out; have hnc156 := NB342_355.out; obtain ⟨hcz157_0, hfz157_0⟩ := bc1 BK355.out; obtain ⟨hcz158_0, hfz158_0⟩ := bc1 BK342.out) | ((with_reducible refine gate_callee (f := 47) rfl ?_); refine goesL_ (some 28) rfl rfl Try.func47 (by kernel_rfl) rfl #[.agg #[.slice A1_0 l1_0.length c1_0]] rfl (by (try simp only [List.map_toArray, List.map_cons, List.map_nil]); first | done | rfl | (simp only [List.length_drop, List.length_take]; rfl)) ?_; (with_reducible refine (laws_toGrammar.calls k _ _ l1_0 t356 _ ?side1 ?side2 A23.out).mono ?_); (case side1 => exact Kd.C_below HR1_0.out bw); (case side2 => exact HC1_0.out); rintro e w159 ⟨v357, rfl, ho0, hb⟩; refine ⟨_, rfl, ?_⟩; have n0_ := Aside0.mk (Kd.R_elder' (by (with_reducible repeat (first | apply Kd.R_alloc | apply Kd.R_drewN | apply Kd.R_drew)); exact (Kd.R_mono (Kd.R_far (p := ⟨gb355, 0, none⟩) (Kd.R_types HO347.out BK355.out (by decide)) (fun _ hk => hk.2) (.slice Ao154 t352.length co154)) (fun _ h_ => h_.1))) (Kd.R_base ho0) hb); have n1_ := Aside0.mk (Kd.R_elder' (by (with_reducible repeat (first | apply Kd.R_alloc | apply Kd.R_drewN | apply Kd.R_drew)); exact (Kd.R_mono (Kd.R_far (p := ⟨gb355, 0, none⟩) (Kd.R_types HO350.out BK355.out (by decide)) (fun _ hk => hk.2) (.slice Ao154 t352.length co154)) (fun _ h_ => h_.1))) (Kd.R_base ho0) hb); have n2_ := Aside0.mk (Kd.R_elder' (by (with_reducible repeat (first | apply Kd.R_alloc | apply Kd.R_drewN | apply Kd.R_drew)); exact (Kd.R_mono (Kd.R_far (p := ⟨gb355, 0, none⟩) (Kd.R_types HO354.out BK355.out (by decide)) (fun _ hk => hk.2) (.slice Ao154 t352.length co154)) (fun _ h_ => h_.1))) (Kd.R_base ho0) hb); have n3_ := Aside0.mk (Kd.R_lower (Kd.R_new' (Kd.R_new' (Kd.R_new' ho0 (Kd.R_lt (by (with_reducible repeat (first | apply Kd.R_alloc | apply Kd.R_drewN | apply Kd.R_drew)); exact (Kd.R_mono (Kd.R_far (p := ⟨gb355, 0, none⟩) (Kd.R_types HO347.out BK355.out (by decide)) (fun _ hk => hk.2) (.slice Ao154 t352.length co154)) (fun _ h_ => h_.1))))) (Kd.R_lt (by (with_reducible repeat (first | apply Kd.R_alloc | apply Kd.R_drewN | apply Kd.R_drew)); exact (Kd.R_mono (Kd.R_far (p := ⟨gb355, 0, none⟩) (Kd.R_types HO350.out BK355.out (by decide)) (fun _ hk => hk.2) (.slice Ao154 t352.length co154)) (fun _ h_ => h_.1))))) (Kd.R_lt (by (with_reducible repeat (first | apply Kd.R_alloc | apply Kd.R_drewN | apply Kd.R_drew)); exact (Kd.R_mono (Kd.R_far (p := ⟨gb355, 0, none⟩) (Kd.R_types HO354.out BK355.out (by decide)) (fun _ hk => hk.2) (.slice Ao154 t352.length co154)) (fun _ h_ => h_.1))))) (below_size bw)); have n4_ := Aside0.mk (blk_below (g := gb341) (o := .cells #[.slice A0_0 l0_0.length c0_0] 78 (0, 0)) bx hb); have n5_ := Aside0.mk (blk_below (g := gb342) (o := .cells #[.slice A1_0 l1_0.length c1_0] 78 (0, 0)) bx hb); have n6_ := Aside0.mk (blk_below (g := gb355) (o := .cells #[.slice Ao154 t352.length co154] 83 (0, 0)) bx hb); have n7_ := Aside0.mk (below_step bw hb); clear HO347; clear HO350; clear HO354; clear BK341; clear BK342; clear BK355; clear HB; have HO347 := n0_; have HO350 := n1_; have HO354 := n2_; have HO358 := n3_; have BK341 := n4_; have BK342 := n5_; have BK355 := n6_; have HB := n7_; clear n0_ n1_ n2_ n3_ n4_ n5_ n6_ n7_; (try clear hb); (try clear hb2); (try clear hk); (try clear hi); (try clear ho0)) | ((with_reducible refine gate_dst (N := 8) rfl ?_); refine box_event ?hg (N := 8) ?hd (cs := #[.slice none 0 0]) (t := 83) ?hr ?_; (case hd => rfl); (case hg => rfl); (case hr => first | (go_simp; done) | (go_simp; rfl)); intro gb359 hg w160 hbox hb; have n0_ := Aside0.mk (Kd.R_below (by (with_reducible repeat (first | apply Kd.R_alloc | apply Kd.R_drewN | apply Kd.R_drew)); exact HO347.out) hb); have n1_ := Aside0.mk (Kd.R_below (by (with_reducible repeat (first | apply Kd.R_alloc | apply Kd.R_drewN | apply Kd.R_drew)); exact HO350.out) hb); have n2_ := Aside0.mk (Kd.R_below (by (with_reducible repeat (first | apply Kd.R_alloc | apply Kd.R_drewN | apply Kd.R_drew)); exact HO354.out) hb); have n3_ := Aside0.mk (Kd.R_below (by (with_reducible repeat (first | apply Kd.R_alloc | apply Kd.R_drewN | apply Kd.R_drew)); exact HO358.out) hb); have n4_ := Aside0.mk (blk_below (g := gb341) (o := .cells #[.slice A0_0 l0_0.length c0_0] 78 (0, 0)) bx hb); have n5_ := Aside0.mk (blk_below (g := gb342) (o := .cells #[.slice A1_0 l1_0.length c1_0] 78 (0, 0)) bx hb); have n6_ := Aside0.mk (blk_below (g := gb355) (o := .cells #[.slice Ao154 t352.length co154] 83 (0, 0)) bx hb); have n7_ := Aside0.mk (below_step bw hb); have n8_ := Aside0.mk (hbox); have n9_ := Aside0.mk ((bz bw hg : w.heap.size ≤ gb359)); have n10_ := Aside0.mk ((bz bw hg : w.heap.size ≤ gb359)); have n11_ := Aside0.mk ((bl bx hg : gb341 ≠ gb359)); have n12_ := Aside0.mk ((bl' bx hg : gb359 ≠ gb341)); have n13_ := Aside0.mk ((bl bx hg : gb342 ≠ gb359)); have n14_ := Aside0.mk ((bl' bx hg : gb359 ≠ gb342)); have n15_ := Aside0.mk ((bl bx hg : gb355 ≠ gb359)); have n16_ := Aside0.mk ((bl' bx hg : gb359 ≠ gb355)); clear HO347; clear HO350; clear HO354; clear HO358; clear BK341; clear BK342; clear BK355; clear HB; have HO347 := n0_; have HO350 := n1_; have HO354 := n2_; have HO358 := n3_; have BK341 := n4_; have BK342 := n5_; have BK355 := n6_; have HB := n7_; have BK359 := n8_; have GW359 := n9_; have GE359 := n10_; have NB341_359 := n11_; have NB359_341 := n12_; have NB342_359 := n13_; have NB359_342 := n14_; have NB355_359 := n15_; have NB359_355 := n16_; clear n0_ n1_ n2_ n3_ n4_ n5_ n6_ n7_ n8_ n9_ n10_ n11_ n12_ n13_ n14_ n15_ n16_; clear hb hbox hg; obtain ⟨Ao161, co161, eo161⟩ := Kd.R_slice HO358.out; subst eo161; have hnb162 := NB359_341.out; have hnc162 := NB341_359.out; have hnb163 := NB359_342.out; have hnc163 := NB342_359.out; have hnb164 := NB359_355.out; have hnc164 := NB355_359.out; obtain ⟨hcz165_0, hfz165_0⟩ := bc1 BK359.out; obtain ⟨hcz166_0, hfz166_0⟩ := bc1 BK355.out) | ((with_reducible refine gate_callee (f := 48) rfl ?_); refine goesL_ (some 31) rfl rfl Try.func48 (by kernel_rfl) rfl #[.agg #[.slice Ao154 t352.length co154], .agg #[.slice Ao161 t356.length co161]] rfl (by (try simp only [List.map_toArray, List.map_cons, List.map_nil]); first | done | rfl | (simp only [List.length_drop, List.length_take]; rfl)) ?_; (with_reducible refine (impl_SameGrammar.calls k _ _ t352 _ _ t356 t360 _ ?side1 ?side2 ?side3 ?side4 A24.out).mono ?_); (case side1 => refine (Kd.R_reads' (e := 162) (base := w.heap.size) (ok := fun k_ => (((True ∧ some k_ ≠ (.slice Ao148 t345.length co148 : Value).ownBlock) ∧ some k_ ≠ (.slice Ao149 t348.length co149 : Value).ownBlock) ∧ some k_ ≠ (.slice Ao161 t356.length co161 : Value).ownBlock)) (n := t352.length) (c := co154) ?_).2.2; exact (by (with_reducible repeat (first | apply Kd.R_alloc | apply Kd.R_drewN | apply Kd.R_drew)); exact (Kd.R_mono (Kd.R_far (p := ⟨gb359, 0, none⟩) (Kd.R_types HO354.out BK359.out (by decide)) (fun _ hk => hk.2) (.slice Ao161 t356.length co161)) (fun _ h_ => h_.1)))); (case side2 => exact (Kd.R_reads' HO354.out).2.1); (case side3 => refine (Kd.R_reads' (e := 162) (base := w.heap.size) (ok := fun k_ => (((True ∧ some k_ ≠ (.slice Ao148 t345.length co148 : Value).ownBlock) ∧ some k_ ≠ (.slice Ao149 t348.length co149 : Value).ownBlock) ∧ some k_ ≠ (.slice Ao154 t352.length co154 : Value).ownBlock)) (n := t356.length) (c := co161) ?_).2.2; exact (by (with_reducible repeat (first | apply Kd.R_alloc | apply Kd.R_drewN | apply Kd.R_drew)); exact (Kd.R_mono (Kd.R_far (p := ⟨gb359, 0, none⟩) (Kd.R_types HO358.out BK359.out (by decide)) (fun _ hk => hk.2) (.slice Ao161 t356.length co161)) (fun _ h_ => h_.1)))); (case side4 => exact (Kd.R_reads' HO358.out).2.1); rintro e w167 ⟨rfl, hb⟩; refine ⟨_, rfl, ?_⟩; have n0_ := Aside0.mk (Kd.R_below (by (with_reducible repeat (first | apply Kd.R_alloc | apply Kd.R_drewN | apply Kd.R_drew)); exact (Kd.R_mono (Kd.R_far (p := ⟨gb359, 0, none⟩) (Kd.R_types HO347.out BK359.out (by decide)) (fun _ hk => hk.2) (.slice Ao161 t356.length co161)) (fun _ h_ => h_.1))) hb); have n1_ := Aside0.mk (Kd.R_below (by (with_reducible repeat (first | apply Kd.R_alloc | apply Kd.R_drewN | apply Kd.R_drew)); exact (Kd.R_mono (Kd.R_far (p := ⟨gb359, 0, none⟩) (Kd.R_types HO350.out BK359.out (by decide)) (fun _ hk => hk.2) (.slice Ao161 t356.length co161)) (fun _ h_ => h_.1))) hb); have n2_ := Aside0.mk (Kd.R_below (by (with_reducible repeat (first | apply Kd.R_alloc | apply Kd.R_drewN | apply Kd.R_drew)); exact (Kd.R_mono (Kd.R_far (p := ⟨gb359, 0, none⟩) (Kd.R_types HO354.out BK359.out (by decide)) (fun _ hk => hk.2) (.slice Ao161 t356.length co161)) (fun _ h_ => h_.1))) hb); have n3_ := Aside0.mk (Kd.R_below (by (with_reducible repeat (first | apply Kd.R_alloc | apply Kd.R_drewN | apply Kd.R_drew)); exact (Kd.R_mono (Kd.R_far (p := ⟨gb359, 0, none⟩) (Kd.R_types HO358.out BK359.out (by decide)) (fun _ hk => hk.2) (.slice Ao161 t356.length co161)) (fun _ h_ => h_.1))) hb); have n4_ := Aside0.mk (blk_below (g := gb341) (o := .cells #[.slice A0_0 l0_0.length c0_0] 78 (0, 0)) bx hb); have n5_ := Aside0.mk (blk_below (g := gb342) (o := .cells #[.slice A1_0 l1_0.length c1_0] 78 (0, 0)) bx hb); have n6_ := Aside0.mk (blk_below (g := gb355) (o := .cells #[.slice Ao154 t352.length co154] 83 (0, 0)) bx hb); have n7_ := Aside0.mk (blk_below (g := gb359) (o := .cells #[.slice Ao161 t356.length co161] 83 (0, 0)) bx hb); have n8_ := Aside0.mk (below_step bw hb); clear HO347; clear HO350; clear HO354; clear HO358; clear BK341; clear BK342; clear BK355; clear BK359; clear HB; have HO347 := n0_; have HO350 := n1_; have HO354 := n2_; have HO358 := n3_; have BK341 := n4_; have BK342 := n5_; have BK355 := n6_; have BK359 := n7_; have HB := n8_; clear n0_ n1_ n2_ n3_ n4_ n5_ n6_ n7_ n8_; (try clear hb); (try clear hb2); (try clear hk); (try clear hi)))
          have n0_ := Aside0.mk (Kd.R_drew HO347.out)
          have n1_ := Aside0.mk (Kd.R_drew HO350.out)
          have n2_ := Aside0.mk (Kd.R_drew HO354.out)
          have n3_ := Aside0.mk (Kd.R_drew HO358.out)
          have n4_ := Aside0.mk (blk_drew BK341.out)
          have n5_ := Aside0.mk (blk_drew BK342.out)
          have n6_ := Aside0.mk (blk_drew BK355.out)
          have n7_ := Aside0.mk (blk_drew BK359.out)
          have n8_ := Aside0.mk (below_drew1 HB.out)
          clear HO347
          clear HO350
          clear HO354
          clear HO358
          clear BK341
          clear BK342
          clear BK355
          clear BK359
          clear HB
          have HO347 := n0_
          have HO350 := n1_
          have HO354 := n2_
          have HO358 := n3_
          have BK341 := n4_
          have BK342 := n5_
          have BK355 := n6_
          have BK359 := n7_
          have HB := n8_
          clear n0_ n1_ n2_ n3_ n4_ n5_ n6_ n7_ n8_
          refine start_ (n := 5) (S := fun w' => w'.cell? ⟨gb355, 0, none⟩ = some (.slice Ao154 t352.length co154) ∧ w'.cell? ⟨gb341, 0, none⟩ = some (.slice A0_0 l0_0.length c0_0)) (ds := []) #[false, false, false, false, false] (by kernel_rfl) rfl rfl ⟨(blk_cell BK355.out 0).trans rfl, (blk_cell BK341.out 0).trans rfl⟩ (fun hHeld => ?_)
          generalize w167.drew = w168 at HO347 HO350 HO354 HO358 BK341 BK342 BK355 BK359 HB hHeld ⊢
          refine take_ (i := 0) (N := some 35) (v := ?_) (a' := ?_) #[true, false, false, false, false] rfl rfl (by kernel_rfl) (fun _ _ _ h => h) (Or.inl ⟨by rfl, ?_⟩) hHeld ?_ ?_
          rotate_left
          · rintro w' ⟨s0, s1⟩
            go_simp
            with_reducible rfl
          rotate_left
          · simp only [Act.put, List.setIfInBounds_toArray, List.set_cons_zero, List.set_cons_succ, i64_w, i32_w]
            rfl
          refine take_ (i := 1) (N := some 36) (v := ?_) (a' := ?_) #[true, true, false, false, false] rfl rfl (by kernel_rfl) (fun _ _ _ h => h) (Or.inl ⟨by rfl, ?_⟩) hHeld ?_ ?_
          rotate_left
          · rintro w' ⟨s0, s1⟩
            go_simp
            with_reducible rfl
          rotate_left
          · simp only [Act.put, List.setIfInBounds_toArray, List.set_cons_zero, List.set_cons_succ, i64_w, i32_w]
            rfl
          refine one_ (i := 2) (N := some 37) #[true, true, true, false, false] rfl rfl (by kernel_rfl) (by decide) (fun K hK => ?_)
          refine goes_ Try.func47 (by kernel_rfl) rfl #[.agg #[.slice A0_0 l0_0.length c0_0]] (by rfl) rfl rfl (by (try simp only [List.map_toArray, List.map_cons, List.map_nil]); first | done | rfl | (simp only [List.length_drop, List.length_take]; rfl)) ?_
          with_reducible refine (laws_toGrammar.calls k _ _ l0_0 t361 _ ?side1 ?side2 A56.out).mono ?_
          (case side1 => exact kb)
          (case side2 => exact HC0_0.out)
          rintro e w169 ⟨v362, rfl, ho0, hb⟩
          refine ⟨_, rfl, ?_⟩
          have n0_ := Aside0.mk (Kd.R_elder' (by (with_reducible repeat (first | apply Kd.R_alloc | apply Kd.R_drewN | apply Kd.R_drew)); exact HO347.out) (Kd.R_base ho0) hb)
          have n1_ := Aside0.mk (Kd.R_elder' (by (with_reducible repeat (first | apply Kd.R_alloc | apply Kd.R_drewN | apply Kd.R_drew)); exact HO350.out) (Kd.R_base ho0) hb)
          have n2_ := Aside0.mk (Kd.R_elder' (by (with_reducible repeat (first | apply Kd.R_alloc | apply Kd.R_drewN | apply Kd.R_drew)); exact HO354.out) (Kd.R_base ho0) hb)
          have n3_ := Aside0.mk (Kd.R_elder' (by (with_reducible repeat (first | apply Kd.R_alloc | apply Kd.R_drewN | apply Kd.R_drew)); exact HO358.out) (Kd.R_base ho0) hb)
          have n4_ := Aside0.mk (Kd.R_lower (Kd.R_new' (Kd.R_new' (Kd.R_new' (Kd.R_new' ho0 (Kd.R_lt (by (with_reducible repeat (first | apply Kd.R_alloc | apply Kd.R_drewN | apply Kd.R_drew)); exact HO347.out))) (Kd.R_lt (by (with_reducible repeat (first | apply Kd.R_alloc | apply Kd.R_drewN | apply Kd.R_drew)); exact HO350.out))) (Kd.R_lt (by (with_reducible repeat (first | apply Kd.R_alloc | apply Kd.R_drewN | apply Kd.R_drew)); exact HO354.out))) (Kd.R_lt (by (with_reducible repeat (first | apply Kd.R_alloc | apply Kd.R_drewN | apply Kd.R_drew)); exact HO358.out))) (below_size bw))
          have n5_ := Aside0.mk (blk_below (g := gb341) (o := .cells #[.slice A0_0 l0_0.length c0_0] 78 (0, 0)) bx hb)
          have n6_ := Aside0.mk (blk_below (g := gb342) (o := .cells #[.slice A1_0 l1_0.length c1_0] 78 (0, 0)) bx hb)
          have n7_ := Aside0.mk (blk_below (g := gb355) (o := .cells #[.slice Ao154 t352.length co154] 83 (0, 0)) bx hb)
          have n8_ := Aside0.mk (blk_below (g := gb359) (o := .cells #[.slice Ao161 t356.length co161] 83 (0, 0)) bx hb)
          have n9_ := Aside0.mk (below_step bw hb)
          clear HO347
          clear HO350
          clear HO354
          clear HO358
          clear BK341
          clear BK342
          clear BK355
          clear BK359
          clear HB
          have HO347 := n0_
          have HO350 := n1_
          have HO354 := n2_
          have HO358 := n3_
          have HO363 := n4_
          have BK341 := n5_
          have BK342 := n6_
          have BK355 := n7_
          have BK359 := n8_
          have HB := n9_
          clear n0_ n1_ n2_ n3_ n4_ n5_ n6_ n7_ n8_ n9_
          (try clear hb)
          (try clear hb2)
          (try clear hk)
          (try clear hi)
          (try clear ho0)
          obtain ⟨Ao170, co170, eo170⟩ := Kd.R_slice HO363.out
          (first | subst eo170 | (injection eo170 with f1_ f2_ f3_; have f4_ := f1_.symm; have f5_ := f3_.symm; clear f1_ f2_ f3_; subst f4_; subst f5_))
          refine hK.out _ _ ⟨(blk_cell BK355.out 0).trans rfl, (blk_cell BK341.out 0).trans rfl⟩ (fun hHeld => ?_)
          clear hK K
          refine norm_ (a' := ?_) ?_ ?_
          rotate_left
          · show Act.put _ (some 37) _ = _
            simp only [Act.put, List.setIfInBounds_toArray, List.set_cons_zero, List.set_cons_succ, i64_w, i32_w]
            rfl
          refine one_ (i := 3) (N := some 38) #[true, true, true, true, false] rfl rfl (by kernel_rfl) (by decide) (fun K hK => ?_)
          refine goes_ Try.func49 (by kernel_rfl) rfl #[.agg #[.slice Ao154 t352.length co154], .agg #[.slice Ao170 t361.length co170]] (by rfl) rfl rfl (by (try simp only [List.map_toArray, List.map_cons, List.map_nil]); first | done | rfl | (simp only [List.length_drop, List.length_take]; rfl)) ?_
          with_reducible refine (laws_eqGrammar.calls k _ _ t352 _ _ t361 false _ ?side1 ?side2 ?side3 ?side4 A57.out).mono ?_
          (case side1 => repeat (first | exact (Kd.R_reads' HO354.out).2.2 | (with_reducible refine Kd.C_alloc ?_ _) | (with_reducible refine Kd.C_drewN ?_ _) | (with_reducible refine Kd.C_drew ?_)))
          (case side2 => exact (Kd.R_reads' HO354.out).2.1)
          (case side3 => repeat (first | exact (Kd.R_reads' HO363.out).2.2 | (with_reducible refine Kd.C_alloc ?_ _) | (with_reducible refine Kd.C_drewN ?_ _) | (with_reducible refine Kd.C_drew ?_)))
          (case side4 => exact (Kd.R_reads' HO363.out).2.1)
          rintro e w171 ⟨rfl, hb⟩
          refine ⟨_, rfl, ?_⟩
          have n0_ := Aside0.mk (Kd.R_below (by (with_reducible repeat (first | apply Kd.R_alloc | apply Kd.R_drewN | apply Kd.R_drew)); exact HO347.out) hb)
          have n1_ := Aside0.mk (Kd.R_below (by (with_reducible repeat (first | apply Kd.R_alloc | apply Kd.R_drewN | apply Kd.R_drew)); exact HO350.out) hb)
          have n2_ := Aside0.mk (Kd.R_below (by (with_reducible repeat (first | apply Kd.R_alloc | apply Kd.R_drewN | apply Kd.R_drew)); exact HO354.out) hb)
          have n3_ := Aside0.mk (Kd.R_below (by (with_reducible repeat (first | apply Kd.R_alloc | apply Kd.R_drewN | apply Kd.R_drew)); exact HO358.out) hb)
          have n4_ := Aside0.mk (Kd.R_below (by (with_reducible repeat (first | apply Kd.R_alloc | apply Kd.R_drewN | apply Kd.R_drew)); exact HO363.out) hb)
          have n5_ := Aside0.mk (blk_below (g := gb341) (o := .cells #[.slice A0_0 l0_0.length c0_0] 78 (0, 0)) bx hb)
          have n6_ := Aside0.mk (blk_below (g := gb342) (o := .cells #[.slice A1_0 l1_0.length c1_0] 78 (0, 0)) bx hb)
          have n7_ := Aside0.mk (blk_below (g := gb355) (o := .cells #[.slice Ao154 t352.length co154] 83 (0, 0)) bx hb)
          have n8_ := Aside0.mk (blk_below (g := gb359) (o := .cells #[.slice Ao161 t356.length co161] 83 (0, 0)) bx hb)
          have n9_ := Aside0.mk (below_step bw hb)
          clear HO347
          clear HO350
          clear HO354
          clear HO358
          clear HO363
          clear BK341
          clear BK342
          clear BK355
          clear BK359
          clear HB
          have HO347 := n0_
          have HO350 := n1_
          have HO354 := n2_
          have HO358 := n3_
          have HO363 := n4_
          have BK341 := n5_
          have BK342 := n6_
          have BK355 := n7_
          have BK359 := n8_
          have HB := n9_
          clear n0_ n1_ n2_ n3_ n4_ n5_ n6_ n7_ n8_ n9_
          (try clear hb)
          (try clear hb2)
          (try clear hk)
          (try clear hi)
          refine hK.out _ _ ⟨(blk_cell BK355.out 0).trans rfl, (blk_cell BK341.out 0).trans rfl⟩ (fun hHeld => ?_)
          clear hK K
          refine norm_ (a' := ?_) ?_ ?_
          rotate_left
          · show Act.put _ (some 38) _ = _
            simp only [Act.put, List.setIfInBounds_toArray, List.set_cons_zero, List.set_cons_succ, i64_w, i32_w]
            rfl
          refine pure_ (i := 4) (N := some 39) (v := ?_) (a' := ?_) #[true, true, true, true, true] rfl rfl (by kernel_rfl) (fun _ _ _ h => h) (Or.inl ⟨by rfl, ?_⟩) ?_ ?_
          rotate_left
          · intro w'
            go_simp
            with_reducible rfl
          rotate_left
          · simp only [Act.put, List.setIfInBounds_toArray, List.set_cons_zero, List.set_cons_succ, i64_w, i32_w]
            rfl
          refine done_ (by kernel_rfl) ?_
          try go_wp2
          go_ret
          exact ⟨by first | rfl | (simp [errW_none, errW_some] <;> rfl) | (simp [*, errW_none, errW_some] <;> rfl), by repeat (first | (with_reducible first | exact HB.out | apply below_alloc | apply pw_below_drewN | apply below_drew1 | refine below_set ?_ GE341.out | refine below_set ?_ GE342.out | refine below_set ?_ GE355.out | refine below_set ?_ GE359.out) | exact HB.out)⟩

end Go.Proofs.Ytlkbdoejeomlmaa.PFnExactSameGrammar
