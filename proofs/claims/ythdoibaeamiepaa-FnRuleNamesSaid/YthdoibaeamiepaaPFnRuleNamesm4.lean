/- Printed walks of the functions of FnRuleNames, in few texts. No condition. -/
import Derived.Test.YthdoibaeamiepaaPFnRuleNamesm0
import Derived.Test.YthdoibaeamiepaaAwFnRuleNames
import Derived.Test.YthdoibaeamiepaaY
set_option maxHeartbeats 8000000
set_option maxRecDepth 100000
namespace Go.Proofs.Ythdoibaeamiepaa.PFnRuleNames
section
open Go.RowKit Go.Proofs.YthdoibaeamiepaaW.PrintWords Go.Proofs.YthdoibaeamiepaaW.PrintLast Go.Proofs.YthdoibaeamiepaaW.PrintMore
theorem run_geq_72b245 (P : Program) (t : TypeId) (w : World) (x y : ByteArray) : (binOp .geq t (.string x) (.string y)).run P w = .ok (.bool (!Op.bytesLess x.toList y.toList)) w := rfl
attribute [local go_sem] run_str_gtr run_geq_72b245
attribute [local go_sem] max2_int min2_int max_two min_two max_three min_three max_four min_four
set_option linter.unusedVariables false
set_option linter.unusedSimpArgs false
def spec_VarName.l0 : Nat → ByteArray → Int → Option (Bool)
 | 0, _, _ => none
 | k + 1, x0, x3 => if x3 < (x0.size : Int) then (if 0 ≤ x3 then (if (bt x0 x3) < 97 then (some false) else (if (bt x0 x3) > 122 then (some false) else (spec_VarName.l0 k x0 (wrap64 (x3 + 1))))) else (none)) else ((spec_l01In.f (x0.size : Int) 1 4).bind fun t189 => (some t189))
def spec_VarName.f (k : Nat) (a0 : ByteArray) : Option (Bool) := spec_VarName.l0 k a0 0
theorem spec_VarName.mono_l : ∀ k, (∀ y0 y1, LeO (spec_VarName.l0 k y0 y1) (spec_VarName.l0 (k + 1) y0 y1))
 | 0 => fun _ _ r h => by simp [spec_VarName.l0] at h
 | k + 1 => by
  have ih0 := spec_VarName.mono_l k
  ·intro y0 y1; unfold spec_VarName.l0; repeat' with_reducible first | exact ih0 _ _ | exact LeO.refl _ | refine LeO.ite ?_ ?_
theorem spec_VarName.mono : ∀ a0 k, LeO (spec_VarName.f k a0) (spec_VarName.f (k + 1) a0) := by
 intro a0 k; have ih0 := spec_VarName.mono_l k; unfold spec_VarName.f; repeat' (with_reducible exact ih0 _ _)
theorem spec_VarName.calls (k : Nat) (a0 : ByteArray) (r : Bool) (w : World) (h : spec_VarName.f k a0 = some r) :
  Calls Try.prog 62 #[.string a0] w fun e w' => e = .returned (.bool r) ∧ Drawn0 w w' := by
 have H : (spec_VarName.l0 k a0 0) = some r := h; clear h; have H' := am H; clear H; go_enter Try.func62, Try.ntmps62; go_wp2; go_loopg [3] k (fun kq v3 w' => ∃ (x3_1 : Int), v3 = .int .i64 x3_1 ∧ Aside0 (spec_VarName.l0 kq a0 x3_1 = some r) ∧ Aside0 (kq ≤ k) ∧ Drawn0 w w')
 case atStart => exact ⟨(0), (by rfl), H', ⟨Nat.le_refl _⟩, by repeat (exact Drawn0.refl _)⟩
 case round =>
  clear H'; obtain ⟨x3_1, rfl, HA, HK1, ⟨m1, rfl⟩⟩ := hrel
  cases gk with
  | zero => exact absurd HA.out (by simp [spec_VarName.l0])
  | succ k1 =>
   have H := HA.out; clear HA; simp only [spec_VarName.l0] at H; rcases cd H, H with ⟨⟨c2b0, H⟩ | ⟨c2b0, H⟩, -⟩
   ·rcases cn H, H with ⟨⟨c3b0, H⟩, -⟩; rcases cd H, H with ⟨⟨c5b0, H⟩ | ⟨c5b0, H⟩, -⟩
    ·obtain rfl := si H; obtain ⟨p4, q4, hx4⟩ := bt_w a0 x3_1 oa oa; go_wp2; go_ret; exact ⟨by rfl, by repeat (first | exact Drawn0.refl _ | apply Drawn0.step)⟩
    ·rcases cg H, H with ⟨⟨c7b0, H⟩ | ⟨c7b0, H⟩, -⟩
     ·obtain rfl := si H; obtain ⟨p4, q4, hx4⟩ := bt_w a0 x3_1 oa oa; obtain ⟨p6, q6, hx6⟩ := bt_w a0 x3_1 oa oa; go_wp2; go_ret; exact ⟨by rfl, by repeat (first | exact Drawn0.refl _ | apply Drawn0.step)⟩
     ·have H' := am H; clear H; obtain ⟨p4, q4, hx4⟩ := bt_w a0 x3_1 oa oa; obtain ⟨p6, q6, hx6⟩ := bt_w a0 x3_1 oa oa; go_wp2; go_roundg k1
      case measure => have := HK1.out; omega
      case rel => exact ⟨(wrap64 (x3_1 + 1)), (by rfl), H', ⟨by have := HK1.out; omega⟩, by repeat (first | exact Drawn0.refl _ | apply Drawn0.step)⟩
   ·rcases ob H, H with ⟨⟨t189, A8, H⟩, -⟩; obtain rfl := si H; go_wp2_with (((with_reducible refine gc 21 ?_); refine gl_ 22 Try.func21 #[.int .i64 (a0.size : Int), .int .i64 1, .int .i64 4] ?_; (with_reducible refine (spec_l01In.calls (a0.size : Int) 1 4 t189 _ A8.out).mono ?_); rintro e w' ⟨rfl, ⟨nd, rfl⟩⟩; refine ⟨_, rfl, ?_⟩)); go_ret; exact ⟨by rfl, by repeat (first | exact Drawn0.refl _ | apply Drawn0.step)⟩
def spec_l06Params.l0 : Nat → List ByteArray → Int → Option (Bool)
 | 0, _, _ => none
 | k + 1, x0, x3 => if x3 < (x0.length : Int) then (if 0 ≤ x3 then ((spec_VarName.f k (rdOf ByteArray.empty x0 x3)).bind fun t191 => (if t191 = true then (if x3 > 0 then (if 0 ≤ (wrap64 (x3 - 1)) then (if (wrap64 (x3 - 1)) < (x0.length : Int) then (if ((Op.bytesLess ((rdOf ByteArray.empty x0 (wrap64 (x3 - 1))).toList) ((rdOf ByteArray.empty x0 x3).toList)) = true) then (spec_l06Params.l0 k x0 (wrap64 (x3 + 1))) else (some false)) else (none)) else (none)) else (spec_l06Params.l0 k x0 (wrap64 (x3 + 1)))) else (some false))) else (none)) else (some (decide ((x0.length : Int) ≤ 6)))
def spec_l06Params.f (k : Nat) (l0 : List ByteArray) : Option (Bool) := spec_l06Params.l0 k l0 0
theorem spec_l06Params.mono_l : ∀ k, (∀ y0 y1, LeO (spec_l06Params.l0 k y0 y1) (spec_l06Params.l0 (k + 1) y0 y1))
 | 0 => fun _ _ r h => by simp [spec_l06Params.l0] at h
 | k + 1 => by
  have ih0 := spec_l06Params.mono_l k
  ·intro y0 y1; unfold spec_l06Params.l0; repeat' with_reducible first | exact ih0 _ _ | exact spec_VarName.mono _ _ | exact LeO.refl _ | refine LeO.ite ?_ ?_ | refine LeO.bind ?_ (fun _ => ?_)
theorem spec_l06Params.mono : ∀ a0 k, LeO (spec_l06Params.f k a0) (spec_l06Params.f (k + 1) a0) := by
 intro a0 k; have ih0 := spec_l06Params.mono_l k; unfold spec_l06Params.f; repeat' (with_reducible exact ih0 _ _)
theorem spec_l06Params.calls (k : Nat) (A0 : Option Addr) (c0 : Nat) (l0 : List ByteArray) (r : Bool) (w : World) (hr0 : Kd.C Kd.string w A0 l0.length l0) (hc0 : l0.length ≤ c0) (h : spec_l06Params.f k l0 = some r) :
  Calls Try.prog 52 #[.slice A0 l0.length c0] w fun e w' => e = .returned (.bool r) ∧ Drawn0 w w' := by
 have HR0 := am hr0; have HC0 := am hc0; clear hr0 hc0; have H : (spec_l06Params.l0 k l0 0) = some r := h; clear h; have H' := am H; clear H; go_enter Try.func52, Try.ntmps52; go_wp2; repeat (go_quiet (fail); try go_wp2)
 go_loopg [3] k (fun kq v3 w' => ∃ (x3_1 : Int), v3 = .int .i64 x3_1 ∧ Aside0 (spec_l06Params.l0 kq l0 x3_1 = some r) ∧ Aside0 (kq ≤ k) ∧ Drawn0 w w')
 case atStart => exact ⟨(0), (by rfl), H', ⟨Nat.le_refl _⟩, by repeat (exact Drawn0.refl _)⟩
 case round =>
  clear H'; obtain ⟨x3_1, rfl, HA, HK1, ⟨m1, rfl⟩⟩ := hrel
  cases gk with
  | zero => exact absurd HA.out (by simp [spec_l06Params.l0])
  | succ k1 =>
   have H := HA.out; clear HA; simp only [spec_l06Params.l0] at H; rcases cd H, H with ⟨⟨c2b0, H⟩ | ⟨c2b0, H⟩, -⟩
   ·rcases cn H, H with ⟨⟨c3b0, H⟩, -⟩; rcases ob H, H with ⟨⟨t191, A4, H⟩, -⟩; rcases cb H, H with ⟨⟨rfl, H⟩ | ⟨rfl, H⟩, -⟩
    ·rcases cg H, H with ⟨⟨c6b0, H⟩ | ⟨c6b0, H⟩, -⟩
     ·obtain ⟨ji7, hji7⟩ : ∃ j_ : Int, (wrap64 (x3_1 - 1)) = j_ := ⟨_, rfl⟩; replace H : (if 0 ≤ (ji7) then (if (ji7) < (l0.length : Int) then (if ((Op.bytesLess ((rdOf ByteArray.empty l0 (ji7)).toList) ((rdOf ByteArray.empty l0 x3_1).toList)) = true) then (spec_l06Params.l0 k1 l0 (wrap64 (x3_1 + 1))) else (some false)) else (none)) else (none)) = some r := by (rw [hji7] at H; exact H)
      (try rw [hji7] at A4); have hji7w : (IntKind.i64.wrap (x3_1 - 1)) = ji7 := (i64_w _).trans hji7; rcases cn H, H with ⟨⟨c8b0, H⟩, -⟩; rcases cn H, H with ⟨⟨c9b0, H⟩, -⟩; by_cases c10 : ((Op.bytesLess ((rdOf ByteArray.empty l0 (ji7)).toList) ((rdOf ByteArray.empty l0 x3_1).toList)) = true)
      ·rw [if_pos c10] at H; have c10b0 : (Op.bytesLess ((rdOf ByteArray.empty l0 (ji7)).toList) ((rdOf ByteArray.empty l0 x3_1).toList)) = true := c10; clear c10; have H' := am H; clear H; have p190 : 0 ≤ (x3_1 : Int) := oa; have q190 : x3_1 < (l0.length : Int) := oa; obtain ⟨ad190, e190, hx190_0⟩ := Kd.at_string HR0.out x3_1 p190 q190; cases e190; replace p190 := eq_true p190; replace q190 := eq_true q190; have p192 : 0 ≤ ((ji7) : Int) := oa; have q192 : (ji7) < (l0.length : Int) := oa; obtain ⟨ad192, e192, hx192_0⟩ := Kd.at_string HR0.out (ji7) p192 q192; obtain rfl : ad190 = ad192 := (by injection e192); replace p192 := eq_true p192; replace q192 := eq_true q192; have p193 : 0 ≤ (x3_1 : Int) := oa; have q193 : x3_1 < (l0.length : Int) := oa; obtain ⟨ad193, e193, hx193_0⟩ := Kd.at_string HR0.out x3_1 p193 q193; obtain rfl : ad190 = ad193 := (by injection e193); replace p193 := eq_true p193; replace q193 := eq_true q193; go_wp2_with (fail); repeat (go_quiet ((go_at_call 62; (with_reducible refine (spec_VarName.calls k1 (rdOf ByteArray.empty l0 x3_1) true _ A4.out).mono ?_); rintro e w' ⟨rfl, ⟨nd, rfl⟩⟩; (try (exact ⟨rfl, _, Eq.trans (World.drewN_drewN _ _ _) (congrArg (World.drewN _) (Nat.add_assoc _ _ _))⟩)))); try go_wp2_with (fail))
       go_roundg k1
       case measure => have := HK1.out; omega
       case rel => exact ⟨(wrap64 (x3_1 + 1)), (by rfl), H', ⟨by have := HK1.out; omega⟩, by repeat (first | exact Drawn0.refl _ | apply Drawn0.step)⟩
      ·rw [if_neg c10] at H; have c10b0 : (Op.bytesLess ((rdOf ByteArray.empty l0 (ji7)).toList) ((rdOf ByteArray.empty l0 x3_1).toList)) = false := by simpa using c10
       clear c10; obtain rfl := si H; have p190 : 0 ≤ (x3_1 : Int) := oa; have q190 : x3_1 < (l0.length : Int) := oa; obtain ⟨ad190, e190, hx190_0⟩ := Kd.at_string HR0.out x3_1 p190 q190; cases e190; replace p190 := eq_true p190; replace q190 := eq_true q190; have p192 : 0 ≤ ((ji7) : Int) := oa; have q192 : (ji7) < (l0.length : Int) := oa; obtain ⟨ad192, e192, hx192_0⟩ := Kd.at_string HR0.out (ji7) p192 q192; obtain rfl : ad190 = ad192 := (by injection e192); replace p192 := eq_true p192; replace q192 := eq_true q192; have p193 : 0 ≤ (x3_1 : Int) := oa; have q193 : x3_1 < (l0.length : Int) := oa; obtain ⟨ad193, e193, hx193_0⟩ := Kd.at_string HR0.out x3_1 p193 q193; obtain rfl : ad190 = ad193 := (by injection e193); replace p193 := eq_true p193; replace q193 := eq_true q193; go_wp2_with (fail); repeat (go_quiet ((go_at_call 62; (with_reducible refine (spec_VarName.calls k1 (rdOf ByteArray.empty l0 x3_1) true _ A4.out).mono ?_); rintro e w' ⟨rfl, ⟨nd, rfl⟩⟩; (try (exact ⟨rfl, _, Eq.trans (World.drewN_drewN _ _ _) (congrArg (World.drewN _) (Nat.add_assoc _ _ _))⟩)))); try go_wp2_with (fail))
       go_ret; exact ⟨by rfl, by repeat (first | exact Drawn0.refl _ | apply Drawn0.step)⟩
     ·have H' := am H; clear H; have p190 : 0 ≤ (x3_1 : Int) := oa; have q190 : x3_1 < (l0.length : Int) := oa; obtain ⟨ad190, e190, hx190_0⟩ := Kd.at_string HR0.out x3_1 p190 q190; cases e190; replace p190 := eq_true p190; replace q190 := eq_true q190; go_wp2_with (fail); repeat (go_quiet ((go_at_call 62; (with_reducible refine (spec_VarName.calls k1 (rdOf ByteArray.empty l0 x3_1) true _ A4.out).mono ?_); rintro e w' ⟨rfl, ⟨nd, rfl⟩⟩; (try (exact ⟨rfl, _, Eq.trans (World.drewN_drewN _ _ _) (congrArg (World.drewN _) (Nat.add_assoc _ _ _))⟩)))); try go_wp2_with (fail))
      go_roundg k1
      case measure => have := HK1.out; omega
      case rel => exact ⟨(wrap64 (x3_1 + 1)), (by rfl), H', ⟨by have := HK1.out; omega⟩, by repeat (first | exact Drawn0.refl _ | apply Drawn0.step)⟩
    ·obtain rfl := si H; have p190 : 0 ≤ (x3_1 : Int) := oa; have q190 : x3_1 < (l0.length : Int) := oa; obtain ⟨ad190, e190, hx190_0⟩ := Kd.at_string HR0.out x3_1 p190 q190; cases e190; replace p190 := eq_true p190; replace q190 := eq_true q190; go_wp2_with (fail); repeat (go_quiet ((go_at_call 62; (with_reducible refine (spec_VarName.calls k1 (rdOf ByteArray.empty l0 x3_1) false _ A4.out).mono ?_); rintro e w' ⟨rfl, ⟨nd, rfl⟩⟩; (try (exact ⟨rfl, _, Eq.trans (World.drewN_drewN _ _ _) (congrArg (World.drewN _) (Nat.add_assoc _ _ _))⟩)))); try go_wp2_with (fail))
     go_ret; exact ⟨by rfl, by repeat (first | exact Drawn0.refl _ | apply Drawn0.step)⟩
   ·obtain rfl := si H; go_wp2; repeat (go_quiet (fail); try go_wp2)
    go_ret; exact ⟨by rfl, by repeat (first | exact Drawn0.refl _ | apply Drawn0.step)⟩
def spec_l11Leaf.f (a0_0 : Int) (a0_1 : ByteArray) (l0_2 : List (S69)) (a0_3 : ByteArray) (l0_4 : List Int) : Option (Int × ByteArray × (List (S69)) × ByteArray) := some (a0_0, a0_1, l0_2, a0_3)
theorem spec_l11Leaf.calls (a0_0 : Int) (a0_1 : ByteArray) (P0_2_ : Nat → Prop) (A0_2 : Option Addr) (c0_2 : Nat) (l0_2 : List (S69)) (a0_3 : ByteArray) (A0_4 : Option Addr) (c0_4 : Nat) (l0_4 : List Int) (r1 : Int) (r2 : ByteArray) (r3 : List (S69)) (r4 : ByteArray) (w : World) (hs0_2 : Kd.V k69 69 w w.heap.size (fun k_ => P0_2_ k_) (.slice A0_2 l0_2.length c0_2) l0_2) (hr0_4 : Kd.C (Kd.int .i64) w A0_4 l0_4.length l0_4) (hc0_4 : l0_4.length ≤ c0_4) (h : spec_l11Leaf.f a0_0 a0_1 l0_2 a0_3 l0_4 = some (r1, r2, r3, r4)) :
  Calls Try.prog 64 #[.agg #[.int .i64 a0_0, .string a0_1, .slice A0_2 l0_2.length c0_2, .string a0_3, .slice A0_4 l0_4.length c0_4]] w fun e w' => ∃ v2_ : Value, e = .returned (.agg #[.int .i64 r1, .string r2, v2_, .string r4]) ∧ Kd.V k69 69 w' w.heap.size (fun k_ => (P0_2_ k_ ∨ w.heap.size ≤ k_)) v2_ r3 ∧ Below w.heap.size w w' := by
 have hu98 := Try.underlying98; have hu66 := Try.underlying66; have HO0_2 := am (show Kd.V k69 69 w w.heap.size (fun k_ => (P0_2_ k_ ∨ w.heap.size ≤ k_)) (.slice A0_2 l0_2.length c0_2) l0_2 from Kd.V_mono hs0_2 (fun k_ hk => .inl hk)); have HR0_4 := am hr0_4; have HC0_4 := am hc0_4; clear hr0_4 hc0_4; have HB := am (Below.refl w.heap.size w); have H : (some (a0_0, a0_1, l0_2, a0_3)) = some (r1, r2, r3, r4) := h; clear h; simp only [Option.some.injEq, Prod.mk.injEq] at H; obtain ⟨rfl, rfl, rfl, rfl⟩ := H; go_enter Try.func64, Try.ntmps64; go_wp2_with (first | ((with_reducible refine gd 1 ?_); refine bo_ #[.int .i64 a0_0, .string a0_1, .slice A0_2 l0_2.length c0_2, .string a0_3, .slice A0_4 l0_4.length c0_4] 98 (w := w) ?_; intro gb194 hg w2 hb BK194 GE194 HB1; replace HO0_2 := am (Kd.V_below (Kd.V_elderB HO0_2.out gb194 (Nat.le_of_eq hg.symm)) hb); clear HB; have HB := HB1; clear HB1 hb hg) | ((with_reducible refine gd 2 ?_); refine bo_ #[.int .i64 0, .string (⟨#[]⟩ : ByteArray), .slice none 0 0, .string (⟨#[]⟩ : ByteArray)] 66 (w := w) ?_; intro gb195 hg w3 hb BK195 GE195 HB1; have NB194_195 := am ((bl bx hg : gb194 ≠ gb195)); have NB195_194 := am ((bl' bx hg : gb195 ≠ gb194)); replace HO0_2 := am (Kd.V_below (Kd.V_elderB HO0_2.out gb195 (Nat.le_of_eq hg.symm)) hb); replace BK194 := bb BK194 hb; clear HB; have HB := HB1; clear HB1 hb hg; have hnb4 := NB194_195.out; have hnc4 := NB195_194.out; have z5 := bc5 BK194.out; have z6 := bc4 BK195.out)); refine bodyPost_ret (results_cell_row rfl _ _ gb195 66 #[.int .i64 a0_0, .string a0_1, .slice A0_2 l0_2.length c0_2, .string a0_3] (0, 0) _ rfl bx Try.underlying66 rfl (by kernel_rfl)) rfl ?_; exact ⟨_, by rfl, by exact Kd.V_mono (Kd.V_far (p := ⟨gb195, 3, none⟩) (Kd.V_far (p := ⟨gb195, 2, none⟩) (Kd.V_far (p := ⟨gb195, 1, none⟩) (Kd.V_far (p := ⟨gb195, 0, none⟩) (Kd.V_mono HO0_2.out (fun k_ hk => (⟨hk, hk.2⟩ : _ ∧ k_ ≠ gb195))) (fun _ hk => hk.2) (.int .i64 a0_0)) (fun _ hk => hk.2) (.string a0_1)) (fun _ hk => hk.2) (.slice A0_2 l0_2.length c0_2)) (fun _ hk => hk.2) (.string a0_3)) (fun _ hk => hk.1.1.1), bw⟩
mutual
def spec_l03Put.l0 : Nat → List ByteArray → ByteArray → List ByteArray → Int → Option (List ByteArray)
 | 0, _, _, _, _ => none
 | k + 1, x0, x1, x5, x6 => if x6 < (x0.length : Int) then (if 0 ≤ x6 then (if (Op.bytesLess ((rdOf ByteArray.empty x0 x6).toList) x1.toList) = true then (if x5.length < 8796093022208 then (spec_l03Put.l0 k x0 x1 (x5 ++ [rdOf ByteArray.empty x0 x6]) (wrap64 (x6 + 1))) else (none)) else (spec_l03Put.l0 k x0 x1 x5 (wrap64 (x6 + 1)))) else (none)) else (if x5.length < 8796093022208 then (spec_l03Put.l1 k x0 x1 (x5 ++ [x1]) 0) else (none))
def spec_l03Put.l1 : Nat → List ByteArray → ByteArray → List ByteArray → Int → Option (List ByteArray)
 | 0, _, _, _, _ => none
 | k + 1, x0, x1, x5, x7 => if x7 < (x0.length : Int) then (if 0 ≤ x7 then (if (Op.bytesLess x1.toList ((rdOf ByteArray.empty x0 x7).toList)) = true then (if x5.length < 8796093022208 then (spec_l03Put.l1 k x0 x1 (x5 ++ [rdOf ByteArray.empty x0 x7]) (wrap64 (x7 + 1))) else (none)) else (spec_l03Put.l1 k x0 x1 x5 (wrap64 (x7 + 1)))) else (none)) else (some x5)
end
def spec_l03Put.f (k : Nat) (l0 : List ByteArray) (a1 : ByteArray) : Option (List ByteArray) := spec_l03Put.l0 k l0 a1 (([] : List ByteArray)) 0
theorem spec_l03Put.mono_l : ∀ k, (∀ y0 y1 y2 y3, LeO (spec_l03Put.l0 k y0 y1 y2 y3) (spec_l03Put.l0 (k + 1) y0 y1 y2 y3)) ∧ (∀ y0 y1 y2 y3, LeO (spec_l03Put.l1 k y0 y1 y2 y3) (spec_l03Put.l1 (k + 1) y0 y1 y2 y3))
 | 0 => ⟨fun _ _ _ _ r h => by simp [spec_l03Put.l0] at h, fun _ _ _ _ r h => by simp [spec_l03Put.l1] at h⟩
 | k + 1 => by
  obtain ⟨ih0, ih1⟩ := spec_l03Put.mono_l k; refine ⟨?_, ?_⟩
  ·intro y0 y1 y2 y3; unfold spec_l03Put.l0; repeat' with_reducible first | exact ih0 _ _ _ _ | exact ih1 _ _ _ _ | exact LeO.refl _ | refine LeO.ite ?_ ?_
  ·intro y0 y1 y2 y3; unfold spec_l03Put.l1; repeat' with_reducible first | exact ih1 _ _ _ _ | exact LeO.refl _ | refine LeO.ite ?_ ?_
theorem spec_l03Put.mono : ∀ a0 a1 k, LeO (spec_l03Put.f k a0 a1) (spec_l03Put.f (k + 1) a0 a1) := by
 intro a0 a1 k; obtain ⟨ih0, ih1⟩ := spec_l03Put.mono_l k; unfold spec_l03Put.f; repeat' (with_reducible exact ih0 _ _ _ _)
theorem spec_l03Put.calls (k : Nat) (A0 : Option Addr) (c0 : Nat) (l0 : List ByteArray) (a1 : ByteArray) (r : List ByteArray) (w : World) (hr0 : Kd.C Kd.string w A0 l0.length l0) (hc0 : l0.length ≤ c0) (h : spec_l03Put.f k l0 a1 = some r) :
  Calls Try.prog 65 #[.slice A0 l0.length c0, .string a1] w fun e w' => ∃ v0_ : Value, e = .returned (v0_) ∧ Kd.R Kd.string 9 w' w.heap.size (fun _ => True) v0_ r ∧ Below w.heap.size w w' := by
 have HR0 := am hr0; have HC0 := am hc0; clear hr0 hc0; have HB := am (Below.refl w.heap.size w); have H : (spec_l03Put.l0 k l0 a1 (([] : List ByteArray)) 0) = some r := h; clear h; obtain ⟨y196, hy196⟩ : ∃ y_ : List ByteArray, y_ = (([] : List ByteArray)) := ⟨_, rfl⟩; rw [← hy196] at H; have Ny196 := am hy196; clear hy196; have H' := am H; clear H; go_enter Try.func65, Try.ntmps65; go_wp2_with (((with_reducible refine gate_dst (N := 8) rfl ?_); refine Kd.R_lit Kd.string _ 9 ?hg (N := 8) ?hd (xs := ([] : List ByteArray)) (inner := []) (ok := fun _ => True) (okp := fun _ => True) ?hr ?hp (fun _ hk => hk) trivial (Below.refl _ _) (Nat.le_refl _) (by simp) ?_; (case hd => rfl); (case hg => rfl); (case hr => (go_simp; done)); (case hp => exact (Reps.none _ _)); intro v197 w3 ho4 hb hg_ hnew_; clear hg_ hnew_; ((rw [← Ny196.out] at ho4)); have HO198 := am (Kd.R_lower ho4 (below_size bw)); replace HB := am (below_step bw hb); clear hb ho4)); go_loopg [5, 6] k (fun kq v5 v6 w' => ∃ (x5_1 : List ByteArray) (x6_1 : Int), v6 = .int .i64 x6_1 ∧ Aside0 (spec_l03Put.l0 kq l0 a1 x5_1 x6_1 = some r) ∧ Aside0 (kq ≤ k) ∧ Aside0 (Kd.R Kd.string 9 w' w.heap.size (fun _ => True) v5 x5_1) ∧ Aside0 (Below w.heap.size w w'))
 case atStart => exact ⟨(y196), (0), (by rfl), H', ⟨Nat.le_refl _⟩, HO198, HB⟩
 case round =>
  clear H'; obtain ⟨x5_1, x6_1, rfl, HA, HK1, HO_5, HB⟩ := hrel
  cases gk with
  | zero => exact absurd HA.out (by simp [spec_l03Put.l0])
  | succ k1 =>
   have H := HA.out; clear HA; simp only [spec_l03Put.l0] at H; rcases cd H, H with ⟨⟨c5b0, H⟩ | ⟨c5b0, H⟩, -⟩
   ·rcases cn H, H with ⟨⟨c6b0, H⟩, -⟩; by_cases c7 : (Op.bytesLess ((rdOf ByteArray.empty l0 x6_1).toList) a1.toList) = true
    ·rw [if_pos c7] at H; have c7b0 : (Op.bytesLess ((rdOf ByteArray.empty l0 x6_1).toList) a1.toList) = true := c7; clear c7; rcases cm H, H with ⟨⟨c8, H⟩, -⟩; have LMc8 := am c8; clear c8; obtain ⟨y201, hy201⟩ : ∃ y_ : List ByteArray, y_ = (x5_1 ++ [rdOf ByteArray.empty l0 x6_1]) := ⟨_, rfl⟩; rw [← hy201] at H; have Ny201 := am hy201; clear hy201; have H' := am H; clear H; obtain ⟨p199, q199, ad199, e199, hx199_0⟩ := aw_Kstring HB HR0 x6_1 oa oa; cases e199; obtain ⟨p200, q200, ad200, e200, hx200_0⟩ := aw_Kstring HB HR0 x6_1 oa oa; obtain rfl : ad199 = ad200 := (by injection e200); go_wp2_with (((with_reducible refine gate_builtin (b := .append) (xs := #[.tmp 21, .tmp 26]) rfl ?_); at_builtin; refine Kd.R_append Kd.string (w0 := w) w.heap.size rfl (.tmp 21) (.tmp 26) 30 9 (.string ⟨#[]⟩) 16 rfl Try.underlying30 info9 rfl (by decide) (by omega) u5 x5_1 (rdOf ByteArray.empty l0 x6_1) [.string (rdOf ByteArray.empty l0 x6_1)] (fun _ => True) (fun _ => False) rfl rfl ?aP (fun _ hk => hk.elim) ?aF ?aO ?aB ?aS ?aL ?_; (case aP => exact rfl); (case aB => exact bw); (case aF => exact (fun _ _ => trivial)); (case aO => exact HO_5.out); (case aS => exact (below_size bw)); (case aL => have := LMc8.out; omega); intro v202 w9 ho hb hg hat; rw [← Ny201.out] at ho; have HO203 := am (ho); replace HB := am (hb); clear HO_5; clear ho hb hg hat)); go_roundg k1
     case measure => have := HK1.out; omega
     case rel => exact ⟨(y201), (wrap64 (x6_1 + 1)), (by rfl), H', ⟨by have := HK1.out; omega⟩, HO203, HB⟩
    ·rw [if_neg c7] at H; have c7b0 : (Op.bytesLess ((rdOf ByteArray.empty l0 x6_1).toList) a1.toList) = false := by simpa using c7
     clear c7; have H' := am H; clear H; obtain ⟨p199, q199, ad199, e199, hx199_0⟩ := aw_Kstring HB HR0 x6_1 oa oa; cases e199; go_wp2; go_roundg k1
     case measure => have := HK1.out; omega
     case rel => exact ⟨(x5_1), (wrap64 (x6_1 + 1)), (by rfl), H', ⟨by have := HK1.out; omega⟩, HO_5, HB⟩
   ·rcases ci H, H with ⟨⟨c10, H⟩ | ⟨c10, H⟩, -⟩
    ·have LMc10 := am c10; clear c10; obtain ⟨y204, hy204⟩ : ∃ y_ : List ByteArray, y_ = (x5_1 ++ [a1]) := ⟨_, rfl⟩; rw [← hy204] at H; have Ny204 := am hy204; clear hy204; have H' := am H; clear H; go_wp2_with (((with_reducible refine gate_builtin (b := .append) (xs := #[.tmp 28, .tmp 30]) rfl ?_); at_builtin; refine Kd.R_append Kd.string (w0 := w) w.heap.size rfl (.tmp 28) (.tmp 30) 30 9 (.string ⟨#[]⟩) 16 rfl Try.underlying30 info9 rfl (by decide) (by omega) u5 x5_1 a1 [.string a1] (fun _ => True) (fun _ => False) rfl rfl ?aP (fun _ hk => hk.elim) ?aF ?aO ?aB ?aS ?aL ?_; (case aP => exact rfl); (case aB => exact bw); (case aF => exact (fun _ _ => trivial)); (case aO => exact HO_5.out); (case aS => exact (below_size bw)); (case aL => have := LMc10.out; omega); intro v205 w11 ho hb hg hat; rw [← Ny204.out] at ho; have HO206 := am (ho); replace HB := am (hb); clear HO_5; clear ho hb hg hat)); go_loopg [5, 7] k1 (fun kq v5 v7 w' => ∃ (x5_2 : List ByteArray) (x7_2 : Int), v7 = .int .i64 x7_2 ∧ Aside0 (spec_l03Put.l1 kq l0 a1 x5_2 x7_2 = some r) ∧ Aside0 (kq ≤ k1) ∧ Aside0 (Kd.R Kd.string 9 w' w.heap.size (fun _ => True) v5 x5_2) ∧ Aside0 (Below w.heap.size w w'))
     case atStart => exact ⟨(y204), (0), (by rfl), H', ⟨Nat.le_refl _⟩, HO206, HB⟩
     case round =>
      clear H'; try clear c5b0
      obtain ⟨x5_2, x7_2, rfl, HA, HK2, HO_5, HB⟩ := hrel
      cases gk with
      | zero => exact absurd HA.out (by simp [spec_l03Put.l1])
      | succ k2 =>
       have H := HA.out; clear HA; simp only [spec_l03Put.l1] at H; rcases cd H, H with ⟨⟨c12b0, H⟩ | ⟨c12b0, H⟩, -⟩
       ·rcases cn H, H with ⟨⟨c13b0, H⟩, -⟩; by_cases c14 : (Op.bytesLess a1.toList ((rdOf ByteArray.empty l0 x7_2).toList)) = true
        ·rw [if_pos c14] at H; have c14b0 : (Op.bytesLess a1.toList ((rdOf ByteArray.empty l0 x7_2).toList)) = true := c14; clear c14; rcases cm H, H with ⟨⟨c15, H⟩, -⟩; have LMc15 := am c15; clear c15; obtain ⟨y209, hy209⟩ : ∃ y_ : List ByteArray, y_ = (x5_2 ++ [rdOf ByteArray.empty l0 x7_2]) := ⟨_, rfl⟩; rw [← hy209] at H; have Ny209 := am hy209; clear hy209; have H' := am H; clear H; obtain ⟨p207, q207, ad207, e207, hx207_0⟩ := aw_Kstring HB HR0 x7_2 oa oa; cases e207; obtain ⟨p208, q208, ad208, e208, hx208_0⟩ := aw_Kstring HB HR0 x7_2 oa oa; obtain rfl : ad207 = ad208 := (by injection e208); go_wp2_with (((with_reducible refine gate_builtin (b := .append) (xs := #[.tmp 44, .tmp 49]) rfl ?_); at_builtin; refine Kd.R_append Kd.string (w0 := w) w.heap.size rfl (.tmp 44) (.tmp 49) 30 9 (.string ⟨#[]⟩) 16 rfl Try.underlying30 info9 rfl (by decide) (by omega) u5 x5_2 (rdOf ByteArray.empty l0 x7_2) [.string (rdOf ByteArray.empty l0 x7_2)] (fun _ => True) (fun _ => False) rfl rfl ?aP (fun _ hk => hk.elim) ?aF ?aO ?aB ?aS ?aL ?_; (case aP => exact rfl); (case aB => exact bw); (case aF => exact (fun _ _ => trivial)); (case aO => exact HO_5.out); (case aS => exact (below_size bw)); (case aL => have := LMc15.out; omega); intro v210 w16 ho hb hg hat; rw [← Ny209.out] at ho; have HO211 := am (ho); replace HB := am (hb); clear HO_5; clear ho hb hg hat)); go_roundg k2
         case measure => have := HK1.out; have := HK2.out; omega
         case rel => exact ⟨(y209), (wrap64 (x7_2 + 1)), (by rfl), H', ⟨by have := HK1.out; have := HK2.out; omega⟩, HO211, HB⟩
        ·rw [if_neg c14] at H; have c14b0 : (Op.bytesLess a1.toList ((rdOf ByteArray.empty l0 x7_2).toList)) = false := by simpa using c14
         clear c14; have H' := am H; clear H; obtain ⟨p207, q207, ad207, e207, hx207_0⟩ := aw_Kstring HB HR0 x7_2 oa oa; cases e207; go_wp2; go_roundg k2
         case measure => have := HK1.out; have := HK2.out; omega
         case rel => exact ⟨(x5_2), (wrap64 (x7_2 + 1)), (by rfl), H', ⟨by have := HK1.out; have := HK2.out; omega⟩, HO_5, HB⟩
       ·obtain rfl := si H; go_wp2; go_ret; exact ⟨_, by rfl, by exact HO_5.out, HB.out⟩
    ·exact absurd H (by simp)
def spec_l11Group.f (l0_0 : List (S98)) (l0_1 : List (S82)) (a1 : Int) : Option (Int) := if 0 ≤ a1 then (if a1 < (l0_0.length : Int) then (if ((rd_T98 l0_0 a1).f0) = 6 then (some a1) else (if 0 < (((rd_T98 l0_0 a1).f4).length : Int) then (some (rd ((rd_T98 l0_0 a1).f4) 0)) else (none))) else (none)) else (none)
theorem spec_l11Group.calls (A0_0 : Option Addr) (c0_0 : Nat) (l0_0 : List (S98)) (A0_1 : Option Addr) (c0_1 : Nat) (l0_1 : List (S82)) (a1 : Int) (r : Int) (w : World) (hr0_0 : Kd.C k98 w A0_0 l0_0.length l0_0) (hc0_0 : l0_0.length ≤ c0_0) (hr0_1 : Kd.C k82 w A0_1 l0_1.length l0_1) (hc0_1 : l0_1.length ≤ c0_1) (h : spec_l11Group.f l0_0 l0_1 a1 = some r) :
  Calls Try.prog 68 #[.agg #[.slice A0_0 l0_0.length c0_0, .slice A0_1 l0_1.length c0_1], .int .i64 a1] w fun e w' => e = .returned (.int .i64 r) ∧ Below w.heap.size w w' := by
 have hu53 := Try.underlying53; have HR0_0 := am hr0_0; have HC0_0 := am hc0_0; clear hr0_0 hc0_0; have HR0_1 := am hr0_1; have HC0_1 := am hc0_1; clear hr0_1 hc0_1; have HB := am (Below.refl w.heap.size w); have H := h; unfold spec_l11Group.f at H; clear h; by_cases c3 : 0 ≤ a1
 ·rw [if_pos c3] at H; have c3b0 : decide (0 ≤ a1) = true := decide_eq_true c3; clear c3; rcases cn H, H with ⟨⟨c4b0, H⟩, -⟩; rcases ce H, H with ⟨⟨-, c5b0, c5b1, H⟩ | ⟨c5, c5b0, c5b1, H⟩, -⟩
  ·obtain rfl := si H; go_enter Try.func68, Try.ntmps68; go_wp2_with (((with_reducible refine gd 2 ?_); refine bo_ #[.slice A0_0 l0_0.length c0_0, .slice A0_1 l0_1.length c0_1] 53 (w := w) ?_; clear HB; intro gb212 hg w6 hb BK212 GE212 HB; have GW212 := GE212; clear hb hg; have z7 := bc2 BK212.out; obtain ⟨p213, q213, ad213, A213_2, c213_2, A213_4, c213_4, e213, hx213_0, hx213_1, hx213_2, hx213_3, hx213_4, HC213_2, HR213_2, HC213_4, HR213_4⟩ := aw_T98 HB HR0_0 a1 oa oa; cases e213)); go_ret; exact ⟨by rfl, HB.out⟩
  ·by_cases c8 : 0 < (((rd_T98 l0_0 a1).f4).length : Int)
   ·rw [if_pos c8] at H; have c8b0 : decide (0 < (((rd_T98 l0_0 a1).f4).length : Int)) = true := decide_eq_true c8; have c8b1 : decide (0 < ((rd_T98 l0_0 a1).f4).length) = true := decide_eq_true (by omega); clear c8; obtain rfl := si H; go_enter Try.func68, Try.ntmps68; go_wp2_with (((with_reducible refine gd 2 ?_); refine bo_ #[.slice A0_0 l0_0.length c0_0, .slice A0_1 l0_1.length c0_1] 53 (w := w) ?_; clear HB; intro gb212 hg w9 hb BK212 GE212 HB; have GW212 := GE212; clear hb hg; have z10 := bc2 BK212.out; obtain ⟨p213, q213, ad213, A213_2, c213_2, A213_4, c213_4, e213, hx213_0, hx213_1, hx213_2, hx213_3, hx213_4, HC213_2, HR213_2, HC213_4, HR213_4⟩ := aw_T98 HB HR0_0 a1 oa oa; cases e213; obtain ⟨p214, q214, ad214, A214_2, c214_2, A214_4, c214_4, e214, hx214_0, hx214_1, hx214_2, hx214_3, hx214_4, HC214_2, HR214_2, HC214_4, HR214_4⟩ := aw_T98 HB HR0_0 a1 oa oa; obtain rfl : ad213 = ad214 := (by injection e214); have ea_ := Option.some.inj (hx213_2.symm.trans hx214_2); injection ea_ with ea_ en_ ec_; subst ea_; subst ec_; clear en_; have ea_ := Option.some.inj (hx213_4.symm.trans hx214_4); injection ea_ with ea_ en_ ec_; subst ea_; subst ec_; clear en_; have p215 : 0 ≤ (0 : Int) := (by omega); have q215 : 0 < (((rd_T98 l0_0 a1).f4).length : Int) := oa; obtain ⟨ad215, e215, hx215_0⟩ := Kd.at_int HR214_4.out 0 p215 q215; cases e215; have qi215 : (0 < ((rd_T98 l0_0 a1).f4).length) = True := eq_true (by omega); (try rw [show ((0 : Int)).toNat = 0 from rfl] at hx215_0); (try rw [Addr.add_zero'] at hx215_0); replace hx215_0 := hbc HB.out hx215_0; replace p215 := eq_true p215; replace q215 := eq_true q215)); go_ret; exact ⟨by rfl, HB.out⟩
   ·rw [if_neg c8] at H; exact absurd H (by simp)
 ·rw [if_neg c3] at H; exact absurd H (by simp)
mutual
def spec_l06Text.l0 : Nat → ByteArray → ByteArray → Int → Option (Bool)
 | 0, _, _, _ => none
 | k + 1, x0, x3, x4 => if x4 < (x0.size : Int) then (if 0 ≤ x4 then ((spec_l05Byte.f (bt x0 x4)).bind fun t217 => (spec_l06Text.l1 k x0 x3 x4 t217 0)) else (none)) else ((spec_l01In.f (x0.size : Int) 1 8).bind fun t216 => (some t216))
def spec_l06Text.l1 : Nat → ByteArray → ByteArray → Int → Bool → Int → Option (Bool)
 | 0, _, _, _, _, _ => none
 | k + 1, x0, x3, x4, x5, x6 => if x6 < (x3.size : Int) then (if x5 = true then (spec_l06Text.l1 k x0 x3 x4 true (wrap64 (x6 + 1))) else (if 0 ≤ x6 then (if 0 ≤ x4 then (if x4 < (x0.size : Int) then (spec_l06Text.l1 k x0 x3 x4 ((bt x3 x6) == (bt x0 x4)) (wrap64 (x6 + 1))) else (none)) else (none)) else (none))) else (if x5 = true then (spec_l06Text.l0 k x0 x3 (wrap64 (x4 + 1))) else (some false))
end
def spec_l06Text.f (k : Nat) (a0 : ByteArray) : Option (Bool) := spec_l06Text.l0 k a0 (⟨#[43, 45, 42, 94, 40, 41, 91, 93, 58, 44, 59, 46, 61, 60, 62]⟩ : ByteArray) 0
theorem spec_l06Text.mono_l : ∀ k, (∀ y0 y1 y2, LeO (spec_l06Text.l0 k y0 y1 y2) (spec_l06Text.l0 (k + 1) y0 y1 y2)) ∧ (∀ y0 y1 y2 y3 y4, LeO (spec_l06Text.l1 k y0 y1 y2 y3 y4) (spec_l06Text.l1 (k + 1) y0 y1 y2 y3 y4))
 | 0 => ⟨fun _ _ _ r h => by simp [spec_l06Text.l0] at h, fun _ _ _ _ _ r h => by simp [spec_l06Text.l1] at h⟩
 | k + 1 => by
  obtain ⟨ih0, ih1⟩ := spec_l06Text.mono_l k; refine ⟨?_, ?_⟩
  ·intro y0 y1 y2; unfold spec_l06Text.l0; repeat' with_reducible first | exact ih1 _ _ _ _ _ | exact LeO.refl _ | refine LeO.ite ?_ ?_ | refine LeO.bind ?_ (fun _ => ?_)
  ·intro y0 y1 y2 y3 y4; unfold spec_l06Text.l1; repeat' with_reducible first | exact ih0 _ _ _ | exact ih1 _ _ _ _ _ | exact LeO.refl _ | refine LeO.ite ?_ ?_
theorem spec_l06Text.mono : ∀ a0 k, LeO (spec_l06Text.f k a0) (spec_l06Text.f (k + 1) a0) := by
 intro a0 k; obtain ⟨ih0, ih1⟩ := spec_l06Text.mono_l k; unfold spec_l06Text.f; repeat' (with_reducible exact ih0 _ _ _)
theorem spec_l06Text.calls (k : Nat) (a0 : ByteArray) (r : Bool) (w : World) (h : spec_l06Text.f k a0 = some r) :
  Calls Try.prog 78 #[.string a0] w fun e w' => e = .returned (.bool r) ∧ Drawn0 w w' := by
 have H := h; unfold spec_l06Text.f at H; clear h; have H' := am H; clear H; go_enter Try.func78, Try.ntmps78; go_wp2; repeat (go_quiet (fail); try go_wp2)
 go_loopg [4] k (fun kq v4 w' => ∃ (x4_1 : Int), v4 = .int .i64 x4_1 ∧ Aside0 (spec_l06Text.l0 kq a0 (⟨#[43, 45, 42, 94, 40, 41, 91, 93, 58, 44, 59, 46, 61, 60, 62]⟩ : ByteArray) x4_1 = some r) ∧ Aside0 (kq ≤ k) ∧ Drawn0 w w')
 case atStart => exact ⟨(0), (by rfl), H', ⟨Nat.le_refl _⟩, by repeat (exact Drawn0.refl _)⟩
 case round =>
  clear H'; obtain ⟨x4_1, rfl, HA, HK1, ⟨m1, rfl⟩⟩ := hrel
  cases gk with
  | zero => exact absurd HA.out (by simp [spec_l06Text.l0])
  | succ k1 =>
   have H := HA.out; clear HA; simp only [spec_l06Text.l0] at H; rcases cd H, H with ⟨⟨c2b0, H⟩ | ⟨c2b0, H⟩, -⟩
   ·rcases cn H, H with ⟨⟨c3b0, H⟩, -⟩; rcases ob H, H with ⟨⟨t217, A5, H⟩, -⟩; have H' := am H; clear H; obtain ⟨p4, q4, hx4⟩ := bt_w a0 x4_1 oa oa; go_wp2_with ((go_at_call 76; (with_reducible refine (spec_l05Byte.calls (bt a0 x4_1) t217 _ A5.out).mono ?_); rintro e w' ⟨rfl, ⟨nd, rfl⟩⟩)); repeat (go_quiet (fail); try go_wp2_with (fail))
    go_loopg [5, 6] k1 (fun kq v5 v6 w' => ∃ (x5_2 : Bool) (x6_2 : Int), v5 = .bool x5_2 ∧ v6 = .int .i64 x6_2 ∧ Aside0 (spec_l06Text.l1 kq a0 (⟨#[43, 45, 42, 94, 40, 41, 91, 93, 58, 44, 59, 46, 61, 60, 62]⟩ : ByteArray) x4_1 x5_2 x6_2 = some r) ∧ Aside0 (kq ≤ k1) ∧ Drawn0 w w')
    case atStart => exact ⟨(t217), (0), (by rfl), (by rfl), H', ⟨Nat.le_refl _⟩, by repeat (first | exact Drawn0.refl _ | apply Drawn0.step)⟩
    case round =>
     clear H'; try clear c2b0
     try clear c3b0
     try clear p4
     try clear q4
     try clear hx4
     obtain ⟨x5_2, x6_2, rfl, rfl, HA, HK2, ⟨m2, rfl⟩⟩ := hrel
     cases gk with
     | zero => exact absurd HA.out (by simp [spec_l06Text.l1])
     | succ k2 =>
      have H := HA.out; clear HA; simp only [spec_l06Text.l1] at H; by_cases c6 : x6_2 < ((⟨#[43, 45, 42, 94, 40, 41, 91, 93, 58, 44, 59, 46, 61, 60, 62]⟩ : ByteArray).size : Int)
      ·rw [if_pos c6] at H; have c6b0 : decide (x6_2 < ((⟨#[43, 45, 42, 94, 40, 41, 91, 93, 58, 44, 59, 46, 61, 60, 62]⟩ : ByteArray).size : Int)) = true := decide_eq_true c6; try have c6b0z : decide (x6_2 < 15) = true := decide_eq_true c6
       (try (have c6b1 : decide (x6_2 < 15) = true := decide_eq_true c6)); clear c6; rcases cb H, H with ⟨⟨rfl, H⟩ | ⟨rfl, H⟩, -⟩
       ·have H' := am H; clear H; go_wp2; repeat (go_quiet (fail); try go_wp2)
        go_roundg k2
        case measure => have := HK1.out; have := HK2.out; omega
        case rel => exact ⟨(true), (wrap64 (x6_2 + 1)), (by rfl), (by rfl), H', ⟨by have := HK1.out; have := HK2.out; omega⟩, by repeat (first | exact Drawn0.refl _ | apply Drawn0.step)⟩
       ·rcases cn H, H with ⟨⟨c8b0, H⟩, -⟩; rcases cn H, H with ⟨⟨c10b0, H⟩, -⟩; rcases cn H, H with ⟨⟨c11b0, H⟩, -⟩; have H' := am H; clear H; have p9 : 0 ≤ (x6_2 : Int) := oa; have q9 : x6_2 < (15 : Int) := oa; have hx9 := bt_at (⟨#[43, 45, 42, 94, 40, 41, 91, 93, 58, 44, 59, 46, 61, 60, 62]⟩ : ByteArray) x6_2; replace p9 := eq_true p9; replace q9 := eq_true q9; obtain ⟨p12, q12, hx12⟩ := bt_w a0 x4_1 oa oa; go_wp2; repeat (go_quiet (fail); try go_wp2)
        go_roundg k2
        case measure => have := HK1.out; have := HK2.out; omega
        case rel => exact ⟨(((bt (⟨#[43, 45, 42, 94, 40, 41, 91, 93, 58, 44, 59, 46, 61, 60, 62]⟩ : ByteArray) x6_2) == (bt a0 x4_1))), (wrap64 (x6_2 + 1)), (by rfl), (by rfl), H', ⟨by have := HK1.out; have := HK2.out; omega⟩, by repeat (first | exact Drawn0.refl _ | apply Drawn0.step)⟩
      ·rw [if_neg c6] at H; have c6b0 : decide (x6_2 < ((⟨#[43, 45, 42, 94, 40, 41, 91, 93, 58, 44, 59, 46, 61, 60, 62]⟩ : ByteArray).size : Int)) = false := decide_eq_false c6; try have c6b0z : decide (x6_2 < 15) = false := decide_eq_false c6
       (try (have c6b1 : decide (x6_2 < 15) = false := decide_eq_false c6)); clear c6; rcases cb H, H with ⟨⟨rfl, H⟩ | ⟨rfl, H⟩, -⟩
       ·have H' := am H; clear H; go_wp2; repeat (go_quiet (fail); try go_wp2)
        go_roundg k2
        case measure => have := HK1.out; have := HK2.out; omega
        case rel => exact ⟨(wrap64 (x4_1 + 1)), (by rfl), H', ⟨by have := HK1.out; have := HK2.out; omega⟩, by repeat (first | exact Drawn0.refl _ | apply Drawn0.step)⟩
       ·obtain rfl := si H; go_wp2; repeat (go_quiet (fail); try go_wp2)
        go_ret; exact ⟨by rfl, by repeat (first | exact Drawn0.refl _ | apply Drawn0.step)⟩
   ·rcases ob H, H with ⟨⟨t216, A14, H⟩, -⟩; obtain rfl := si H; go_wp2_with ((go_at_call 21; (with_reducible refine (spec_l01In.calls (a0.size : Int) 1 8 t216 _ A14.out).mono ?_); rintro e w' ⟨rfl, ⟨nd, rfl⟩⟩)); repeat (go_quiet (fail); try go_wp2_with (fail))
    go_ret; exact ⟨by rfl, by repeat (first | exact Drawn0.refl _ | apply Drawn0.step)⟩
end
section
open Go.RowKit Go.Proofs.YthdoibaeamiepaaW.PrintWords Go.Proofs.YthdoibaeamiepaaW.PrintLast Go.Proofs.YthdoibaeamiepaaW.PrintMore
attribute [local go_sem] max2_int min2_int max_two min_two max_three min_three max_four min_four
set_option linter.unusedVariables false
set_option linter.unusedSimpArgs false
mutual
def spec_ExprOk.l0 : Nat → Int → List (S92) → Option (Bool)
 | 0, _, _ => none
 | k + 1, x3, x220000 => if x3 < (x220000.length : Int) then (if 0 ≤ x3 then ((spec_l01In.f ((rd_T92 x220000 x3).f0) 1 11).bind fun t223 => (if t223 = true then ((spec_l04Kids.f k ((rd_T92 x220000 x3).f0)).bind fun t224 => (spec_ExprOk.j1 k x3 ((((rd_T92 x220000 x3).f3).length : Int) != t224) x220000 ((rd_T92 x220000 x3).f0) ((rd_T92 x220000 x3).f1) ((rd_T92 x220000 x3).f2) ((rd_T92 x220000 x3).f3))) else (spec_ExprOk.j1 k x3 true x220000 ((rd_T92 x220000 x3).f0) ((rd_T92 x220000 x3).f1) ((rd_T92 x220000 x3).f2) ((rd_T92 x220000 x3).f3)))) else (none)) else ((spec_l01In.f (x220000.length : Int) 1 20).bind fun t220 => (some t220))
def spec_ExprOk.j1 : Nat → Int → Bool → List (S92) → Int → Int → ByteArray → List Int → Option (Bool)
 | 0, _, _, _, _, _, _, _ => none
 | k + 1, x3, x30, x220000, x223000, x223001, x223002, x223003 => if x30 = true then (some false) else (if x223000 = 1 then ((spec_l01In.f x223001 0 99).bind fun t225 => (if t225 = true then (if x223000 = 2 then ((spec_VarName.f k x223002).bind fun t226 => (if t226 = true then (spec_ExprOk.j2 k x3 false x220000 x223000 x223001 x223002 x223003) else (spec_ExprOk.j2 k x3 true x220000 x223000 x223001 x223002 x223003))) else (spec_ExprOk.j2 k x3 (x223002.toList != ([] : List UInt8)) x220000 x223000 x223001 x223002 x223003)) else (spec_ExprOk.j2 k x3 true x220000 x223000 x223001 x223002 x223003))) else (if x223001 = 0 then (if x223000 = 2 then ((spec_VarName.f k x223002).bind fun t227 => (if t227 = true then (spec_ExprOk.j2 k x3 false x220000 x223000 x223001 x223002 x223003) else (spec_ExprOk.j2 k x3 true x220000 x223000 x223001 x223002 x223003))) else (spec_ExprOk.j2 k x3 (x223002.toList != ([] : List UInt8)) x220000 x223000 x223001 x223002 x223003)) else (spec_ExprOk.j2 k x3 true x220000 x223000 x223001 x223002 x223003)))
def spec_ExprOk.j2 : Nat → Int → Bool → List (S92) → Int → Int → ByteArray → List Int → Option (Bool)
 | 0, _, _, _, _, _, _, _ => none
 | k + 1, x3, x70, x220000, x223000, x223001, x223002, x223003 => if x70 = true then (some false) else (spec_ExprOk.l1 k x3 0 x220000 x223000 x223001 x223002 x223003)
def spec_ExprOk.l1 : Nat → Int → Int → List (S92) → Int → Int → ByteArray → List Int → Option (Bool)
 | 0, _, _, _, _, _, _, _ => none
 | k + 1, x3, x5, x220000, x223000, x223001, x223002, x223003 => if x5 < (x223003.length : Int) then (if 0 ≤ x5 then ((spec_l01In.f (rd x223003 x5) 0 (wrap64 (x3 - 1))).bind fun t229 => (if t229 = true then (spec_ExprOk.l1 k x3 (wrap64 (x5 + 1)) x220000 x223000 x223001 x223002 x223003) else (some false))) else (none)) else (spec_ExprOk.l0 k (wrap64 (x3 + 1)) x220000)
end
def spec_ExprOk.f (k : Nat) (l0_0 : List (S92)) : Option (Bool) := spec_ExprOk.l0 k 0 l0_0
theorem spec_ExprOk.mono_l : ∀ k, (∀ y0 y1, LeO (spec_ExprOk.l0 k y0 y1) (spec_ExprOk.l0 (k + 1) y0 y1)) ∧ (∀ y0 y1 y2 y3 y4 y5 y6, LeO (spec_ExprOk.j1 k y0 y1 y2 y3 y4 y5 y6) (spec_ExprOk.j1 (k + 1) y0 y1 y2 y3 y4 y5 y6)) ∧ (∀ y0 y1 y2 y3 y4 y5 y6, LeO (spec_ExprOk.j2 k y0 y1 y2 y3 y4 y5 y6) (spec_ExprOk.j2 (k + 1) y0 y1 y2 y3 y4 y5 y6)) ∧ (∀ y0 y1 y2 y3 y4 y5 y6, LeO (spec_ExprOk.l1 k y0 y1 y2 y3 y4 y5 y6) (spec_ExprOk.l1 (k + 1) y0 y1 y2 y3 y4 y5 y6))
 | 0 => ⟨fun _ _ r h => by simp [spec_ExprOk.l0] at h, fun _ _ _ _ _ _ _ r h => by simp [spec_ExprOk.j1] at h, fun _ _ _ _ _ _ _ r h => by simp [spec_ExprOk.j2] at h, fun _ _ _ _ _ _ _ r h => by simp [spec_ExprOk.l1] at h⟩
 | k + 1 => by
  obtain ⟨ih0, ih1, ih2, ih3⟩ := spec_ExprOk.mono_l k; refine ⟨?_, ?_, ?_, ?_⟩
  ·intro y0 y1; unfold spec_ExprOk.l0; repeat' with_reducible first | exact ih1 _ _ _ _ _ _ _ | exact spec_l04Kids.mono _ _ | exact LeO.refl _ | refine LeO.ite ?_ ?_ | refine LeO.bind ?_ (fun _ => ?_)
  ·intro y0 y1 y2 y3 y4 y5 y6; unfold spec_ExprOk.j1; repeat' with_reducible first | exact ih2 _ _ _ _ _ _ _ | exact spec_VarName.mono _ _ | exact LeO.refl _ | refine LeO.ite ?_ ?_ | refine LeO.bind ?_ (fun _ => ?_)
  ·intro y0 y1 y2 y3 y4 y5 y6; unfold spec_ExprOk.j2; repeat' with_reducible first | exact ih3 _ _ _ _ _ _ _ | exact LeO.refl _ | refine LeO.ite ?_ ?_
  ·intro y0 y1 y2 y3 y4 y5 y6; unfold spec_ExprOk.l1; repeat' with_reducible first | exact ih0 _ _ | exact ih3 _ _ _ _ _ _ _ | exact LeO.refl _ | refine LeO.ite ?_ ?_ | refine LeO.bind ?_ (fun _ => ?_)
theorem spec_ExprOk.mono : ∀ a0 k, LeO (spec_ExprOk.f k a0) (spec_ExprOk.f (k + 1) a0) := by
 intro a0 k; obtain ⟨ih0, ih1, ih2, ih3⟩ := spec_ExprOk.mono_l k; unfold spec_ExprOk.f; repeat' (with_reducible exact ih0 _ _)
theorem spec_ExprOk.calls (k : Nat) (A0_0 : Option Addr) (c0_0 : Nat) (l0_0 : List (S92)) (r : Bool) (w : World) (hr0_0 : Kd.C k92 w A0_0 l0_0.length l0_0) (hc0_0 : l0_0.length ≤ c0_0) (h : spec_ExprOk.f k l0_0 = some r) :
  Calls Try.prog 87 #[.agg #[.slice A0_0 l0_0.length c0_0]] w fun e w' => e = .returned (.bool r) ∧ Below w.heap.size w w' := by
 have hu69 := Try.underlying69; have hu92 := Try.underlying92; have HR0_0 := am hr0_0; have HC0_0 := am hc0_0; clear hr0_0 hc0_0; have HB := am (Below.refl w.heap.size w); have H : (spec_ExprOk.l0 k 0 l0_0) = some r := h; clear h; have H' := am H; clear H; go_enter Try.func87, Try.ntmps87; go_wp2_with (((with_reducible refine gd 1 ?_); refine bo_ #[.slice A0_0 l0_0.length c0_0] 69 (w := w) ?_; clear HB; intro gb219 hg w2 hb BK219 GE219 HB; clear hb hg)); repeat (go_quiet (fail); try go_wp2_with (fail))
 go_loopg [3] k (fun kq v3 w' => ∃ (x3_1 : Int), v3 = .int .i64 x3_1 ∧ Aside0 (spec_ExprOk.l0 kq x3_1 l0_0 = some r) ∧ Aside0 (kq ≤ k) ∧ Aside0 (w'.heap[gb219]? = some (.cells #[(.slice A0_0 l0_0.length c0_0)] 69 (0, 0))) ∧ Aside0 (Below w.heap.size w w'))
 case atStart => exact ⟨(0), (by rfl), H', ⟨Nat.le_refl _⟩, BK219, HB⟩
 case round =>
  clear H'; obtain ⟨x3_1, rfl, HA, HK1, BK219, HB⟩ := hrel
  cases gk with
  | zero => exact absurd HA.out (by simp [spec_ExprOk.l0])
  | succ k1 =>
   have H := HA.out; clear HA; simp only [spec_ExprOk.l0] at H; rcases cd H, H with ⟨⟨c3b0, H⟩ | ⟨c3b0, H⟩, -⟩
   ·rcases cn H, H with ⟨⟨c4b0, H⟩, -⟩; have HC5 := am H; clear H; obtain ⟨hcz6_0, hfz6_0⟩ := bc1 BK219.out; obtain ⟨p221, q221, ad221, A221_3, c221_3, e221, hx221_0, hx221_1, hx221_2, hx221_3, HC221_3, HR221_3⟩ := aw_T92 HB HR0_0 x3_1 oa oa; cases e221; go_upto_region 5 with (((with_reducible refine gd 4 ?_); refine bo_ #[.int .i64 0, .int .i64 0, .string (⟨#[]⟩ : ByteArray), .slice none 0 0] 92 (w := w) ?_; intro gb222 hg w7 hb BK222 GE222 HB1; have NB219_222 := am ((bl bx hg : gb219 ≠ gb222)); have NB222_219 := am ((bl' bx hg : gb222 ≠ gb219)); replace BK219 := am (blk_below (g := gb219) (o := .cells #[.slice (some ad221) l0_0.length c0_0] 69 (0, 0)) bx hb); clear HB; have HB := HB1; clear HB1 hb hg; have hnb8 := NB222_219.out; have hnc8 := NB219_222.out; obtain ⟨hcz9_0, hcz9_1, hcz9_2, hcz9_3, hfz9_0, hfz9_1, hfz9_2, hfz9_3⟩ := bc4 BK222.out)); repeat (go_quiet (fail); go_upto_region 5 with (fail))
    (try simp only [ap]); go_cut [30] (fun v30 wc => ∃ (kq : Nat) (x30_4 : Bool), v30 = .bool x30_4 ∧ Aside0 (spec_ExprOk.j1 kq x3_1 x30_4 l0_0 ((rd_T92 l0_0 x3_1).f0) ((rd_T92 l0_0 x3_1).f1) ((rd_T92 l0_0 x3_1).f2) ((rd_T92 l0_0 x3_1).f3) = some r) ∧ Aside0 (kq ≤ k1) ∧ Aside0 (wc.heap[gb219]? = some (.cells #[(.slice (some ad221) l0_0.length c0_0)] 69 (0, 0))) ∧ Aside0 (wc.heap[gb222]? = some (.cells #[.int .i64 ((rd_T92 l0_0 x3_1).f0), .int .i64 ((rd_T92 l0_0 x3_1).f1), .string ((rd_T92 l0_0 x3_1).f2), (.slice A221_3 ((rd_T92 l0_0 x3_1).f3).length c221_3)] 92 (0, 0))) ∧ Aside0 (Below w.heap.size w wc))
    case first =>
     have H := HC5.out; clear HC5; rcases ob H, H with ⟨⟨t223, A10, H⟩, -⟩; rcases cb H, H with ⟨⟨rfl, H⟩ | ⟨rfl, H⟩, -⟩
     ·rcases ob H, H with ⟨⟨t224, A12, H⟩, -⟩; have H' := am H; clear H; have hnb13 := NB222_219.out; have hnc13 := NB219_222.out; have z14 := bc4 BK222.out; go_wp2_with (fail); repeat (go_quiet (first | (go_at_call 21; (with_reducible refine (spec_l01In.calls ((rd_T92 l0_0 x3_1).f0) 1 11 true _ A10.out).mono ?_); rintro e w' ⟨rfl, ⟨nd, rfl⟩⟩; (try (exact ⟨rfl, _, World.drewN_drewN _ _ _⟩))) | (go_at_call 89; (with_reducible refine (spec_l04Kids.calls k1 ((rd_T92 l0_0 x3_1).f0) t224 _ A12.out).mono ?_); rintro e w' ⟨rfl, ⟨nd, rfl⟩⟩; (try (exact ⟨rfl, _, World.drewN_drewN _ _ _⟩)))); try go_wp2_with (fail))
      go_meet
      case rel => exact ⟨_, (((((rd_T92 l0_0 x3_1).f3).length : Int) != t224)), (by rfl), H', ⟨by have := HK1.out; omega⟩, ⟨bx⟩, ⟨bx⟩, ⟨bw⟩⟩
     ·have H' := am H; clear H; have hnb15 := NB222_219.out; have hnc15 := NB219_222.out; have z16 := bc4 BK222.out; go_wp2_with (fail); repeat (go_quiet ((go_at_call 21; (with_reducible refine (spec_l01In.calls ((rd_T92 l0_0 x3_1).f0) 1 11 false _ A10.out).mono ?_); rintro e w' ⟨rfl, ⟨nd, rfl⟩⟩; (try (exact ⟨rfl, _, World.drewN_drewN _ _ _⟩)))); try go_wp2_with (fail))
      go_meet
      case rel => exact ⟨_, (true), (by rfl), H', ⟨by have := HK1.out; omega⟩, ⟨bx⟩, ⟨bx⟩, ⟨bw⟩⟩
    case rest =>
     clear HC5; try clear c3b0
     try clear c4b0
     try clear hcz6_0
     try clear hcz9_0
     try clear hcz9_1
     try clear hcz9_2
     try clear hcz9_3
     try clear hfz6_0
     try clear hfz9_0
     try clear hfz9_1
     try clear hfz9_2
     try clear hfz9_3
     try clear hx221_0
     try clear hx221_1
     try clear hx221_2
     try clear hx221_3
     try clear p221
     try clear q221
     obtain ⟨kq, x30_4, rfl, HA, HJ4, BK219, BK222, HB⟩ := hcut
     cases kq with
     | zero => exact absurd HA.out (by simp [spec_ExprOk.j1])
     | succ kj4 =>
      have H := HA.out; clear HA; simp only [spec_ExprOk.j1] at H; rcases cb H, H with ⟨⟨rfl, H⟩ | ⟨rfl, H⟩, -⟩
      ·obtain rfl := si H; go_wp2; repeat (go_quiet (fail); try go_wp2)
       go_ret; exact ⟨by rfl, HB.out⟩
      ·have HC18 := am H; clear H; go_upto_region 7 with (fail); repeat (go_quiet (fail); go_upto_region 7 with (fail))
       go_cut [70] (fun v70 wc => ∃ (kq : Nat) (x70_17 : Bool), v70 = .bool x70_17 ∧ Aside0 (spec_ExprOk.j2 kq x3_1 x70_17 l0_0 ((rd_T92 l0_0 x3_1).f0) ((rd_T92 l0_0 x3_1).f1) ((rd_T92 l0_0 x3_1).f2) ((rd_T92 l0_0 x3_1).f3) = some r) ∧ Aside0 (kq ≤ kj4) ∧ Aside0 (wc.heap[gb219]? = some (.cells #[(.slice (some ad221) l0_0.length c0_0)] 69 (0, 0))) ∧ Aside0 (wc.heap[gb222]? = some (.cells #[.int .i64 ((rd_T92 l0_0 x3_1).f0), .int .i64 ((rd_T92 l0_0 x3_1).f1), .string ((rd_T92 l0_0 x3_1).f2), (.slice A221_3 ((rd_T92 l0_0 x3_1).f3).length c221_3)] 92 (0, 0))) ∧ Aside0 (Below w.heap.size w wc))
       case first =>
        have H := HC18.out; clear HC18; rcases ce H, H with ⟨⟨-, c19b0, c19b1, H⟩ | ⟨c19, c19b0, c19b1, H⟩, -⟩
        ·(skip); rcases ob H, H with ⟨⟨t225, A20, H⟩, -⟩; rcases cb H, H with ⟨⟨rfl, H⟩ | ⟨rfl, H⟩, -⟩
         ·rcases ce H, H with ⟨⟨-, c22b0, c22b1, H⟩ | ⟨c22, c22b0, c22b1, H⟩, -⟩
          ·rcases ob H, H with ⟨⟨t226, A23, H⟩, -⟩; rcases cb H, H with ⟨⟨rfl, H⟩ | ⟨rfl, H⟩, -⟩
           ·have H' := am H; clear H; have hnb25 := NB222_219.out; have hnc25 := NB219_222.out; have z26 := bc4 BK222.out; go_wp2_with (first | (go_at_call 21; (with_reducible refine (spec_l01In.calls ((rd_T92 l0_0 x3_1).f1) 0 99 true _ A20.out).mono ?_); rintro e w' ⟨rfl, ⟨nd, rfl⟩⟩) | (go_at_call 62; (with_reducible refine (spec_VarName.calls kj4 ((rd_T92 l0_0 x3_1).f2) true _ A23.out).mono ?_); rintro e w' ⟨rfl, ⟨nd, rfl⟩⟩)); repeat (go_quiet (fail); try go_wp2_with (fail))
            go_meet
            case rel => exact ⟨_, (false), (by rfl), H', ⟨by have := HK1.out; have := HJ4.out; omega⟩, ⟨bx⟩, ⟨bx⟩, ⟨bw⟩⟩
           ·have H' := am H; clear H; have hnb27 := NB222_219.out; have hnc27 := NB219_222.out; have z28 := bc4 BK222.out; go_wp2_with (first | (go_at_call 21; (with_reducible refine (spec_l01In.calls ((rd_T92 l0_0 x3_1).f1) 0 99 true _ A20.out).mono ?_); rintro e w' ⟨rfl, ⟨nd, rfl⟩⟩) | (go_at_call 62; (with_reducible refine (spec_VarName.calls kj4 ((rd_T92 l0_0 x3_1).f2) false _ A23.out).mono ?_); rintro e w' ⟨rfl, ⟨nd, rfl⟩⟩)); repeat (go_quiet (fail); try go_wp2_with (fail))
            go_meet
            case rel => exact ⟨_, (true), (by rfl), H', ⟨by have := HK1.out; have := HJ4.out; omega⟩, ⟨bx⟩, ⟨bx⟩, ⟨bw⟩⟩
          ·have H' := am H; clear H; have hnb29 := NB222_219.out; have hnc29 := NB219_222.out; have z30 := bc4 BK222.out; go_wp2_with ((go_at_call 21; (with_reducible refine (spec_l01In.calls ((rd_T92 l0_0 x3_1).f1) 0 99 true _ A20.out).mono ?_); rintro e w' ⟨rfl, ⟨nd, rfl⟩⟩)); repeat (go_quiet (fail); try go_wp2_with (fail))
           go_meet
           case rel => exact ⟨_, ((((rd_T92 l0_0 x3_1).f2).toList != ([] : List UInt8))), (by (simp [isE0, isE1]; done)), H', ⟨by have := HK1.out; have := HJ4.out; omega⟩, ⟨bx⟩, ⟨bx⟩, ⟨bw⟩⟩
         ·have H' := am H; clear H; have hnb31 := NB222_219.out; have hnc31 := NB219_222.out; have z32 := bc4 BK222.out; go_wp2_with ((go_at_call 21; (with_reducible refine (spec_l01In.calls ((rd_T92 l0_0 x3_1).f1) 0 99 false _ A20.out).mono ?_); rintro e w' ⟨rfl, ⟨nd, rfl⟩⟩)); repeat (go_quiet (fail); try go_wp2_with (fail))
          go_meet
          case rel => exact ⟨_, (true), (by rfl), H', ⟨by have := HK1.out; have := HJ4.out; omega⟩, ⟨bx⟩, ⟨bx⟩, ⟨bw⟩⟩
        ·(skip); rcases ce H, H with ⟨⟨-, c33b0, c33b1, H⟩ | ⟨c33, c33b0, c33b1, H⟩, -⟩
         ·rcases ce H, H with ⟨⟨-, c34b0, c34b1, H⟩ | ⟨c34, c34b0, c34b1, H⟩, -⟩
          ·rcases ob H, H with ⟨⟨t227, A35, H⟩, -⟩; rcases cb H, H with ⟨⟨rfl, H⟩ | ⟨rfl, H⟩, -⟩
           ·have H' := am H; clear H; have hnb37 := NB222_219.out; have hnc37 := NB219_222.out; have z38 := bc4 BK222.out; go_wp2_with ((go_at_call 62; (with_reducible refine (spec_VarName.calls kj4 ((rd_T92 l0_0 x3_1).f2) true _ A35.out).mono ?_); rintro e w' ⟨rfl, ⟨nd, rfl⟩⟩)); repeat (go_quiet (fail); try go_wp2_with (fail))
            go_meet
            case rel => exact ⟨_, (false), (by rfl), H', ⟨by have := HK1.out; have := HJ4.out; omega⟩, ⟨bx⟩, ⟨bx⟩, ⟨bw⟩⟩
           ·have H' := am H; clear H; have hnb39 := NB222_219.out; have hnc39 := NB219_222.out; have z40 := bc4 BK222.out; go_wp2_with ((go_at_call 62; (with_reducible refine (spec_VarName.calls kj4 ((rd_T92 l0_0 x3_1).f2) false _ A35.out).mono ?_); rintro e w' ⟨rfl, ⟨nd, rfl⟩⟩)); repeat (go_quiet (fail); try go_wp2_with (fail))
            go_meet
            case rel => exact ⟨_, (true), (by rfl), H', ⟨by have := HK1.out; have := HJ4.out; omega⟩, ⟨bx⟩, ⟨bx⟩, ⟨bw⟩⟩
          ·have H' := am H; clear H; have hnb41 := NB222_219.out; have hnc41 := NB219_222.out; have z42 := bc4 BK222.out; go_wp2; repeat (go_quiet (fail); try go_wp2)
           go_meet
           case rel => exact ⟨_, ((((rd_T92 l0_0 x3_1).f2).toList != ([] : List UInt8))), (by (simp [isE0, isE1]; done)), H', ⟨by have := HK1.out; have := HJ4.out; omega⟩, BK219, BK222, HB⟩
         ·have H' := am H; clear H; have hnb43 := NB222_219.out; have hnc43 := NB219_222.out; have z44 := bc4 BK222.out; go_wp2; repeat (go_quiet (fail); try go_wp2)
          go_meet
          case rel => exact ⟨_, (true), (by rfl), H', ⟨by have := HK1.out; have := HJ4.out; omega⟩, BK219, BK222, HB⟩
       case rest =>
        clear HC18; obtain ⟨kq, x70_17, rfl, HA, HJ17, BK219, BK222, HB⟩ := hcut
        cases kq with
        | zero => exact absurd HA.out (by simp [spec_ExprOk.j2])
        | succ kj17 =>
         have H := HA.out; clear HA; simp only [spec_ExprOk.j2] at H; rcases cb H, H with ⟨⟨rfl, H⟩ | ⟨rfl, H⟩, -⟩
         ·obtain rfl := si H; go_wp2; repeat (go_quiet (fail); try go_wp2)
          go_ret; exact ⟨by rfl, HB.out⟩
         ·have H' := am H; clear H; go_wp2; repeat (go_quiet (fail); try go_wp2)
          go_loopg [5] kj17 (fun kq v5 w' => ∃ (x5_4 : Int), v5 = .int .i64 x5_4 ∧ Aside0 (spec_ExprOk.l1 kq x3_1 x5_4 l0_0 ((rd_T92 l0_0 x3_1).f0) ((rd_T92 l0_0 x3_1).f1) ((rd_T92 l0_0 x3_1).f2) ((rd_T92 l0_0 x3_1).f3) = some r) ∧ Aside0 (kq ≤ kj17) ∧ Aside0 (w'.heap[gb219]? = some (.cells #[(.slice (some ad221) l0_0.length c0_0)] 69 (0, 0))) ∧ Aside0 (w'.heap[gb222]? = some (.cells #[.int .i64 ((rd_T92 l0_0 x3_1).f0), .int .i64 ((rd_T92 l0_0 x3_1).f1), .string ((rd_T92 l0_0 x3_1).f2), (.slice A221_3 ((rd_T92 l0_0 x3_1).f3).length c221_3)] 92 (0, 0))) ∧ Aside0 (Below w.heap.size w w'))
          case atStart => exact ⟨(0), (by rfl), H', ⟨Nat.le_refl _⟩, BK219, BK222, HB⟩
          case round =>
           clear H'; obtain ⟨x5_4, rfl, HA, HK4, BK219, BK222, HB⟩ := hrel
           cases gk with
           | zero => exact absurd HA.out (by simp [spec_ExprOk.l1])
           | succ k4 =>
            have H := HA.out; clear HA; simp only [spec_ExprOk.l1] at H; rcases cd H, H with ⟨⟨c46b0, H⟩ | ⟨c46b0, H⟩, -⟩
            ·rcases cn H, H with ⟨⟨c47b0, H⟩, -⟩; rcases ob H, H with ⟨⟨t229, A48, H⟩, -⟩; rcases cb H, H with ⟨⟨rfl, H⟩ | ⟨rfl, H⟩, -⟩
             ·have H' := am H; clear H; have hnb50 := NB222_219.out; have hnc50 := NB219_222.out; have z51 := bc4 BK222.out; obtain ⟨p228, q228, ad228, e228, hx228_0⟩ := aw_Kint HB HR221_3 x5_4 oa oa; cases e228; go_wp2_with ((go_at_call 21; (with_reducible refine (spec_l01In.calls (rd ((rd_T92 l0_0 x3_1).f3) x5_4) 0 (wrap64 (x3_1 - 1)) true _ A48.out).mono ?_); rintro e w' ⟨rfl, ⟨nd, rfl⟩⟩)); repeat (go_quiet (fail); try go_wp2_with (fail))
              go_roundg k4
              case measure => have := HK1.out; have := HJ4.out; have := HJ17.out; have := HK4.out; omega
              case rel => exact ⟨(wrap64 (x5_4 + 1)), (by rfl), H', ⟨by have := HK1.out; have := HJ4.out; have := HJ17.out; have := HK4.out; omega⟩, ⟨bx⟩, ⟨bx⟩, ⟨bw⟩⟩
             ·obtain rfl := si H; have hnb52 := NB222_219.out; have hnc52 := NB219_222.out; have z53 := bc4 BK222.out; obtain ⟨p228, q228, ad228, e228, hx228_0⟩ := aw_Kint HB HR221_3 x5_4 oa oa; cases e228; go_wp2_with ((go_at_call 21; (with_reducible refine (spec_l01In.calls (rd ((rd_T92 l0_0 x3_1).f3) x5_4) 0 (wrap64 (x3_1 - 1)) false _ A48.out).mono ?_); rintro e w' ⟨rfl, ⟨nd, rfl⟩⟩)); repeat (go_quiet (fail); try go_wp2_with (fail))
              go_ret; exact ⟨by rfl, bw⟩
            ·have H' := am H; clear H; have hnb54 := NB222_219.out; have hnc54 := NB219_222.out; have z55 := bc4 BK222.out; go_wp2; repeat (go_quiet (fail); try go_wp2)
             go_roundg k4
             case measure => have := HK1.out; have := HJ4.out; have := HJ17.out; have := HK4.out; omega
             case rel => exact ⟨(wrap64 (x3_1 + 1)), (by rfl), H', ⟨by have := HK1.out; have := HJ4.out; have := HJ17.out; have := HK4.out; omega⟩, BK219, HB⟩
   ·rcases ob H, H with ⟨⟨t220, A56, H⟩, -⟩; obtain rfl := si H; have z57 := bc1 BK219.out; go_wp2_with ((go_at_call 21; (with_reducible refine (spec_l01In.calls (l0_0.length : Int) 1 20 t220 _ A56.out).mono ?_); rintro e w' ⟨rfl, ⟨nd, rfl⟩⟩)); repeat (go_quiet (fail); try go_wp2_with (fail))
    go_ret; exact ⟨by rfl, bw⟩
def spec_FreeOf.l0 : Nat → List ByteArray → Int → List (S92) → Option (List ByteArray)
 | 0, _, _, _ => none
 | k + 1, x3, x4, x231000 => if x4 < (x231000.length : Int) then (if 0 ≤ x4 then (if ((rd_T92 x231000 x4).f0) = 2 then ((spec_l03Put.f k x3 ((rd_T92 x231000 x4).f2)).bind fun t237 => (spec_FreeOf.l0 k t237 (wrap64 (x4 + 1)) x231000)) else (spec_FreeOf.l0 k x3 (wrap64 (x4 + 1)) x231000)) else (none)) else (some x3)
def spec_FreeOf.f (k : Nat) (l0_0 : List (S92)) : Option (List ByteArray) := (some (([] : List ByteArray) : List ByteArray)).bind fun y231 => ((spec_ExprOk.f k l0_0).bind fun t234 => (if t234 = true then (spec_FreeOf.l0 k y231 0 l0_0) else (some y231)))
theorem spec_FreeOf.mono_l : ∀ k, (∀ y0 y1 y2, LeO (spec_FreeOf.l0 k y0 y1 y2) (spec_FreeOf.l0 (k + 1) y0 y1 y2))
 | 0 => fun _ _ _ r h => by simp [spec_FreeOf.l0] at h
 | k + 1 => by
  have ih0 := spec_FreeOf.mono_l k
  ·intro y0 y1 y2; unfold spec_FreeOf.l0; repeat' with_reducible first | exact ih0 _ _ _ | exact spec_l03Put.mono _ _ _ | exact LeO.refl _ | refine LeO.ite ?_ ?_ | refine LeO.bind ?_ (fun _ => ?_)
theorem spec_FreeOf.mono : ∀ a0 k, LeO (spec_FreeOf.f k a0) (spec_FreeOf.f (k + 1) a0) := by
 intro a0 k; have ih0 := spec_FreeOf.mono_l k; unfold spec_FreeOf.f; repeat' with_reducible first | exact ih0 _ _ _ | exact spec_ExprOk.mono _ _ | exact LeO.refl _ | refine LeO.ite ?_ ?_ | refine LeO.bind ?_ (fun _ => ?_)
theorem spec_FreeOf.calls (k : Nat) (A0_0 : Option Addr) (c0_0 : Nat) (l0_0 : List (S92)) (r : List ByteArray) (w : World) (hr0_0 : Kd.C k92 w A0_0 l0_0.length l0_0) (hc0_0 : l0_0.length ≤ c0_0) (h : spec_FreeOf.f k l0_0 = some r) :
  Calls Try.prog 86 #[.agg #[.slice A0_0 l0_0.length c0_0]] w fun e w' => ∃ v0_ : Value, e = .returned (v0_) ∧ Kd.R Kd.string 9 w' w.heap.size (fun _ => True) v0_ r ∧ Below w.heap.size w w' := by
 have hu69 := Try.underlying69; have HR0_0 := am hr0_0; have HC0_0 := am hc0_0; clear hr0_0 hc0_0; have HB := am (Below.refl w.heap.size w); have H := h; unfold spec_FreeOf.f at H; clear h; obtain ⟨y231, hy231⟩ : ∃ y_ : List ByteArray, y_ = (([] : List ByteArray)) := ⟨_, rfl⟩; replace H := (Option.bind_some _ _).symm.trans H; rw [← hy231] at H; have Ny231 := am hy231; clear hy231; rcases ob H, H with ⟨⟨t234, A2, H⟩, -⟩; rcases cb H, H with ⟨⟨rfl, H⟩ | ⟨rfl, H⟩, -⟩
 ·have H' := am H; clear H; go_enter Try.func86, Try.ntmps86; go_wp2_with (first | ((with_reducible refine gd 1 ?_); refine bo_ #[.slice A0_0 l0_0.length c0_0] 69 (w := w) ?_; clear HB; intro gb230 hg w4 hb BK230 GE230 HB; have GW230 := GE230; clear hb hg) | ((with_reducible refine gate_dst (N := 5) rfl ?_); refine Kd.R_lit Kd.string _ 9 ?hg (N := 5) ?hd (xs := ([] : List ByteArray)) (inner := []) (ok := fun _ => True) (okp := fun _ => True) ?hr ?hp (fun _ hk => hk) trivial (Below.refl _ _) (Nat.le_refl _) (by simp) ?_; (case hd => rfl); (case hg => rfl); (case hr => (go_simp; done)); (case hp => exact (Reps.none _ _)); intro v232 w5 ho6 hb hg_ hnew_; clear hg_ hnew_; ((rw [← Ny231.out] at ho6)); have HO233 := am (Kd.R_lower ho6 (below_size bw)); replace BK230 := am (blk_below (g := gb230) (o := .cells #[.slice A0_0 l0_0.length c0_0] 69 (0, 0)) bx hb); replace HB := am (below_step bw hb); clear hb ho6; obtain ⟨hcz7_0, hfz7_0⟩ := bc1 BK230.out) | ((with_reducible refine gc 87 ?_); refine gl_ 7 Try.func87 #[.agg #[.slice A0_0 l0_0.length c0_0]] ?_; (with_reducible refine (spec_ExprOk.calls k _ _ l0_0 true _ ?side1 HC0_0.out A2.out).mono ?_); (case side1 => exact kb); rintro e w8 ⟨rfl, hb⟩; refine ⟨_, rfl, ?_⟩; replace HO233 := am (Kd.R_below HO233.out hb); replace BK230 := am (blk_below (g := gb230) (o := .cells #[.slice A0_0 l0_0.length c0_0] 69 (0, 0)) bx hb); replace HB := am (below_step bw hb); (try clear hb))); go_loopg [3, 4] k (fun kq v3 v4 w' => ∃ (x3_1 : List ByteArray) (x4_1 : Int), v4 = .int .i64 x4_1 ∧ Aside0 (spec_FreeOf.l0 kq x3_1 x4_1 l0_0 = some r) ∧ Aside0 (kq ≤ k) ∧ Aside0 (Kd.R Kd.string 9 w' w.heap.size (fun _ => True) v3 x3_1) ∧ Aside0 (w'.heap[gb230]? = some (.cells #[(.slice A0_0 l0_0.length c0_0)] 69 (0, 0))) ∧ Aside0 (Below w.heap.size w w'))
  case atStart => exact ⟨(y231), (0), (by rfl), H', ⟨Nat.le_refl _⟩, HO233, BK230, HB⟩
  case round =>
   clear H'; try clear hcz7_0
   try clear hfz7_0
   obtain ⟨x3_1, x4_1, rfl, HA, HK1, HO_3, BK230, HB⟩ := hrel
   cases gk with
   | zero => exact absurd HA.out (by simp [spec_FreeOf.l0])
   | succ k1 =>
    have H := HA.out; clear HA; simp only [spec_FreeOf.l0] at H; rcases cd H, H with ⟨⟨c9b0, H⟩ | ⟨c9b0, H⟩, -⟩
    ·rcases cn H, H with ⟨⟨c10b0, H⟩, -⟩; rcases ce H, H with ⟨⟨-, c11b0, c11b1, H⟩ | ⟨c11, c11b0, c11b1, H⟩, -⟩
     ·rcases ob H, H with ⟨⟨t237, A12, H⟩, -⟩; have H' := am H; clear H; have z13 := bc1 BK230.out; obtain ⟨p235, q235, ad235, A235_3, c235_3, e235, hx235_0, hx235_1, hx235_2, hx235_3, HC235_3, HR235_3⟩ := aw_T92 HB HR0_0 x4_1 oa oa; cases e235; obtain ⟨p236, q236, ad236, A236_3, c236_3, e236, hx236_0, hx236_1, hx236_2, hx236_3, HC236_3, HR236_3⟩ := aw_T92 HB HR0_0 x4_1 oa oa; obtain rfl : ad235 = ad236 := (by injection e236); have ea_ := Option.some.inj (hx235_3.symm.trans hx236_3); injection ea_ with ea_ en_ ec_
      subst ea_; subst ec_; clear en_; obtain ⟨Ao14, co14, eo14⟩ := Kd.R_slice HO_3.out; subst eo14; go_wp2_with (((with_reducible refine gc 65 ?_); refine gl_ 31 Try.func65 #[.slice Ao14 x3_1.length co14, .string ((rd_T92 l0_0 x4_1).f2)] ?_; (with_reducible refine (spec_l03Put.calls k1 _ _ x3_1 ((rd_T92 l0_0 x4_1).f2) t237 _ ?side1 ?side2 A12.out).mono ?_); (case side1 => repeat ((exact (Kd.R_reads' HO_3.out).2.2))); (case side2 => exact (Kd.R_reads' HO_3.out).2.1); rintro e w15 ⟨v238, rfl, ho0, hb⟩; refine ⟨_, rfl, ?_⟩; have HO239 := am (Kd.R_lower (Kd.R_new' ho0 (Kd.R_lt HO_3.out)) (below_size bw)); replace HO_3 := am (Kd.R_elder' HO_3.out (Kd.R_base ho0) hb); replace BK230 := am (blk_below (g := gb230) (o := .cells #[.slice (some ad235) l0_0.length c0_0] 69 (0, 0)) bx hb); replace HB := am (below_step bw hb); (try clear hb ho0))); go_roundg k1
      case measure => have := HK1.out; omega
      case rel => exact ⟨(t237), (wrap64 (x4_1 + 1)), (by rfl), H', ⟨by have := HK1.out; omega⟩, ⟨by exact Kd.R_mono HO239.out (fun _ hk => trivial)⟩, BK230, HB⟩
     ·have H' := am H; clear H; have z16 := bc1 BK230.out; obtain ⟨p235, q235, ad235, A235_3, c235_3, e235, hx235_0, hx235_1, hx235_2, hx235_3, HC235_3, HR235_3⟩ := aw_T92 HB HR0_0 x4_1 oa oa; cases e235; go_wp2; go_roundg k1
      case measure => have := HK1.out; omega
      case rel => exact ⟨(x3_1), (wrap64 (x4_1 + 1)), (by rfl), H', ⟨by have := HK1.out; omega⟩, HO_3, BK230, HB⟩
    ·obtain rfl := si H; have z17 := bc1 BK230.out; go_wp2; go_ret; exact ⟨_, by rfl, by exact HO_3.out, HB.out⟩
 ·obtain rfl := si H; go_enter Try.func86, Try.ntmps86; go_wp2_with (first | ((with_reducible refine gd 1 ?_); refine bo_ #[.slice A0_0 l0_0.length c0_0] 69 (w := w) ?_; clear HB; intro gb230 hg w18 hb BK230 GE230 HB; have GW230 := GE230; clear hb hg) | ((with_reducible refine gate_dst (N := 5) rfl ?_); refine Kd.R_lit Kd.string _ 9 ?hg (N := 5) ?hd (xs := ([] : List ByteArray)) (inner := []) (ok := fun _ => True) (okp := fun _ => True) ?hr ?hp (fun _ hk => hk) trivial (Below.refl _ _) (Nat.le_refl _) (by simp) ?_; (case hd => rfl); (case hg => rfl); (case hr => (go_simp; done)); (case hp => exact (Reps.none _ _)); intro v232 w19 ho20 hb hg_ hnew_; clear hg_ hnew_; ((rw [← Ny231.out] at ho20)); have HO233 := am (Kd.R_lower ho20 (below_size bw)); replace BK230 := am (blk_below (g := gb230) (o := .cells #[.slice A0_0 l0_0.length c0_0] 69 (0, 0)) bx hb); replace HB := am (below_step bw hb); clear hb ho20; have z21 := bc1 BK230.out) | ((with_reducible refine gc 87 ?_); refine gl_ 7 Try.func87 #[.agg #[.slice A0_0 l0_0.length c0_0]] ?_; (with_reducible refine (spec_ExprOk.calls k _ _ l0_0 false _ ?side1 HC0_0.out A2.out).mono ?_); (case side1 => exact kb); rintro e w22 ⟨rfl, hb⟩; refine ⟨_, rfl, ?_⟩; replace HO233 := am (Kd.R_below HO233.out hb); replace BK230 := am (blk_below (g := gb230) (o := .cells #[.slice A0_0 l0_0.length c0_0] 69 (0, 0)) bx hb); replace HB := am (below_step bw hb); (try clear hb))); go_ret; exact ⟨_, by rfl, by exact HO233.out, HB.out⟩
def spec_l06Known.l0 : Nat → List ByteArray → List ByteArray → Int → List (S92) → Option (Bool)
 | 0, _, _, _, _ => none
 | k + 1, x1, x5, x6, x241000 => if x6 < (x5.length : Int) then (if 0 ≤ x6 then ((spec_l03In.f k x1 (rdOf ByteArray.empty x5 x6)).bind fun t245 => (if t245 = true then (spec_l06Known.l0 k x1 x5 (wrap64 (x6 + 1)) x241000) else (some false))) else (none)) else ((spec_ExprOk.f k x241000).bind fun t246 => (some t246))
def spec_l06Known.f (k : Nat) (l0_0 : List (S92)) (l1 : List ByteArray) : Option (Bool) := (spec_FreeOf.f k l0_0).bind fun t241 => (spec_l06Known.l0 k l1 t241 0 l0_0)
theorem spec_l06Known.mono_l : ∀ k, (∀ y0 y1 y2 y3, LeO (spec_l06Known.l0 k y0 y1 y2 y3) (spec_l06Known.l0 (k + 1) y0 y1 y2 y3))
 | 0 => fun _ _ _ _ r h => by simp [spec_l06Known.l0] at h
 | k + 1 => by
  have ih0 := spec_l06Known.mono_l k
  ·intro y0 y1 y2 y3; unfold spec_l06Known.l0; repeat' with_reducible first | exact ih0 _ _ _ _ | exact spec_ExprOk.mono _ _ | exact spec_l03In.mono _ _ _ | exact LeO.refl _ | refine LeO.ite ?_ ?_ | refine LeO.bind ?_ (fun _ => ?_)
theorem spec_l06Known.mono : ∀ a0 a1 k, LeO (spec_l06Known.f k a0 a1) (spec_l06Known.f (k + 1) a0 a1) := by
 intro a0 a1 k; have ih0 := spec_l06Known.mono_l k; unfold spec_l06Known.f; repeat' with_reducible first | exact ih0 _ _ _ _ | exact spec_FreeOf.mono _ _ | refine LeO.bind ?_ (fun _ => ?_)
theorem spec_l06Known.calls (k : Nat) (A0_0 : Option Addr) (c0_0 : Nat) (l0_0 : List (S92)) (A1 : Option Addr) (c1 : Nat) (l1 : List ByteArray) (r : Bool) (w : World) (hr0_0 : Kd.C k92 w A0_0 l0_0.length l0_0) (hc0_0 : l0_0.length ≤ c0_0) (hr1 : Kd.C Kd.string w A1 l1.length l1) (hc1 : l1.length ≤ c1) (h : spec_l06Known.f k l0_0 l1 = some r) :
  Calls Try.prog 83 #[.agg #[.slice A0_0 l0_0.length c0_0], .slice A1 l1.length c1] w fun e w' => e = .returned (.bool r) ∧ Below w.heap.size w w' := by
 have hu69 := Try.underlying69; have HR0_0 := am hr0_0; have HC0_0 := am hc0_0; clear hr0_0 hc0_0; have HR1 := am hr1; have HC1 := am hc1; clear hr1 hc1; have HB := am (Below.refl w.heap.size w); have H := h; unfold spec_l06Known.f at H; clear h; rcases ob H, H with ⟨⟨t241, A3, H⟩, -⟩; have H' := am H; clear H; go_enter Try.func83, Try.ntmps83; go_wp2_with (first | ((with_reducible refine gd 2 ?_); refine bo_ #[.slice A0_0 l0_0.length c0_0] 69 (w := w) ?_; clear HB; intro gb240 hg w4 hb BK240 GE240 HB; clear hb hg; obtain ⟨hcz5_0, hfz5_0⟩ := bc1 BK240.out) | ((with_reducible refine gc 86 ?_); refine gl_ 8 Try.func86 #[.agg #[.slice A0_0 l0_0.length c0_0]] ?_; (with_reducible refine (spec_FreeOf.calls k _ _ l0_0 t241 _ ?side1 HC0_0.out A3.out).mono ?_); (case side1 => exact kb); rintro e w6 ⟨v242, rfl, ho0, hb⟩; refine ⟨_, rfl, ?_⟩; have HO243 := am (Kd.R_lower ho0 (below_size bw)); replace BK240 := bb BK240 hb; replace HB := am (below_step bw hb); (try clear hb ho0))); go_loopg [6] k (fun kq v6 w' => ∃ (x6_1 : Int), v6 = .int .i64 x6_1 ∧ Aside0 (spec_l06Known.l0 kq l1 t241 x6_1 l0_0 = some r) ∧ Aside0 (kq ≤ k) ∧ Aside0 (Kd.R Kd.string 9 w' w.heap.size (fun _ => True) v242 t241) ∧ Aside0 (w'.heap[gb240]? = some (.cells #[(.slice A0_0 l0_0.length c0_0)] 69 (0, 0))) ∧ Aside0 (Below w.heap.size w w'))
 case atStart => exact ⟨(0), (by rfl), H', ⟨Nat.le_refl _⟩, HO243, BK240, HB⟩
 case round =>
  clear H'; try clear hcz5_0
  try clear hfz5_0
  obtain ⟨x6_1, rfl, HA, HK1, HO_5, BK240, HB⟩ := hrel
  cases gk with
  | zero => exact absurd HA.out (by simp [spec_l06Known.l0])
  | succ k1 =>
   have H := HA.out; clear HA; simp only [spec_l06Known.l0] at H; rcases cd H, H with ⟨⟨c7b0, H⟩ | ⟨c7b0, H⟩, -⟩
   ·rcases cn H, H with ⟨⟨c8b0, H⟩, -⟩; rcases ob H, H with ⟨⟨t245, A9, H⟩, -⟩; rcases cb H, H with ⟨⟨rfl, H⟩ | ⟨rfl, H⟩, -⟩
    ·have H' := am H; clear H; obtain ⟨Ao11, co11, eo11⟩ := Kd.R_slice HO_5.out; subst eo11; have p244 : 0 ≤ (x6_1 : Int) := oa; have q244 : x6_1 < (t241.length : Int) := oa; obtain ⟨ad244, e244, hx244_0⟩ := Kd.at_string (Kd.R_reads' HO_5.out).2.2 x6_1 p244 q244; cases e244; replace p244 := eq_true p244; replace q244 := eq_true q244; go_wp2_with (((with_reducible refine gc 80 ?_); refine gl_ 20 Try.func80 #[.slice A1 l1.length c1, .string (rdOf ByteArray.empty t241 x6_1)] ?_; (with_reducible refine (spec_l03In.calls k1 _ _ l1 (rdOf ByteArray.empty t241 x6_1) true _ ?side1 HC1.out A9.out).mono ?_); (case side1 => exact kb); rintro e w' ⟨rfl, ⟨nd, rfl⟩⟩; refine ⟨_, rfl, ?_⟩)); go_roundg k1
     case measure => have := HK1.out; omega
     case rel => exact ⟨(wrap64 (x6_1 + 1)), (by rfl), H', ⟨by have := HK1.out; omega⟩, ⟨by (with_reducible repeat (apply Kd.R_drewN)); exact HO_5.out⟩, ⟨bx⟩, ⟨bw⟩⟩
    ·obtain rfl := si H; obtain ⟨Ao12, co12, eo12⟩ := Kd.R_slice HO_5.out; subst eo12; have p244 : 0 ≤ (x6_1 : Int) := oa; have q244 : x6_1 < (t241.length : Int) := oa; obtain ⟨ad244, e244, hx244_0⟩ := Kd.at_string (Kd.R_reads' HO_5.out).2.2 x6_1 p244 q244; cases e244; replace p244 := eq_true p244; replace q244 := eq_true q244; go_wp2_with (((with_reducible refine gc 80 ?_); refine gl_ 20 Try.func80 #[.slice A1 l1.length c1, .string (rdOf ByteArray.empty t241 x6_1)] ?_; (with_reducible refine (spec_l03In.calls k1 _ _ l1 (rdOf ByteArray.empty t241 x6_1) false _ ?side1 HC1.out A9.out).mono ?_); (case side1 => exact kb); rintro e w' ⟨rfl, ⟨nd, rfl⟩⟩; refine ⟨_, rfl, ?_⟩)); go_ret; exact ⟨by rfl, bw⟩
   ·rcases ob H, H with ⟨⟨t246, A13, H⟩, -⟩; obtain rfl := si H; obtain ⟨Ao14, co14, eo14⟩ := Kd.R_slice HO_5.out; subst eo14; have z15 := bc1 BK240.out; go_wp2_with (((with_reducible refine gc 87 ?_); refine gl_ 23 Try.func87 #[.agg #[.slice A0_0 l0_0.length c0_0]] ?_; (with_reducible refine (spec_ExprOk.calls k1 _ _ l0_0 t246 _ ?side1 HC0_0.out A13.out).mono ?_); (case side1 => exact kb); rintro e w16 ⟨rfl, hb⟩; refine ⟨_, rfl, ?_⟩; replace HO_5 := am (Kd.R_below HO_5.out hb); replace BK240 := bb BK240 hb; replace HB := am (below_step bw hb); (try clear hb))); go_ret; exact ⟨by rfl, HB.out⟩
def spec_l06Args.l0 : Nat → List (S69) → List ByteArray → Int → Option (Bool)
 | 0, _, _, _ => none
 | k + 1, x0, x1, x5 => if x5 < (x0.length : Int) then (if 0 ≤ x5 then ((spec_l06Known.f k ((rd_T69 x0 x5).f0) x1).bind fun t248 => (if t248 = true then (spec_l06Args.l0 k x0 x1 (wrap64 (x5 + 1))) else (some false))) else (none)) else (some true)
def spec_l06Args.f (k : Nat) (l0 : List (S69)) (l1 : List ByteArray) : Option (Bool) := spec_l06Args.l0 k l0 l1 0
theorem spec_l06Args.mono_l : ∀ k, (∀ y0 y1 y2, LeO (spec_l06Args.l0 k y0 y1 y2) (spec_l06Args.l0 (k + 1) y0 y1 y2))
 | 0 => fun _ _ _ r h => by simp [spec_l06Args.l0] at h
 | k + 1 => by
  have ih0 := spec_l06Args.mono_l k
  ·intro y0 y1 y2; unfold spec_l06Args.l0; repeat' with_reducible first | exact ih0 _ _ _ | exact spec_l06Known.mono _ _ _ | exact LeO.refl _ | refine LeO.ite ?_ ?_ | refine LeO.bind ?_ (fun _ => ?_)
theorem spec_l06Args.mono : ∀ a0 a1 k, LeO (spec_l06Args.f k a0 a1) (spec_l06Args.f (k + 1) a0 a1) := by
 intro a0 a1 k; have ih0 := spec_l06Args.mono_l k; unfold spec_l06Args.f; repeat' (with_reducible exact ih0 _ _ _)
theorem spec_l06Args.calls (k : Nat) (A0 : Option Addr) (c0 : Nat) (l0 : List (S69)) (A1 : Option Addr) (c1 : Nat) (l1 : List ByteArray) (r : Bool) (w : World) (hr0 : Kd.C k69 w A0 l0.length l0) (hc0 : l0.length ≤ c0) (hr1 : Kd.C Kd.string w A1 l1.length l1) (hc1 : l1.length ≤ c1) (h : spec_l06Args.f k l0 l1 = some r) :
  Calls Try.prog 79 #[.slice A0 l0.length c0, .slice A1 l1.length c1] w fun e w' => e = .returned (.bool r) ∧ Below w.heap.size w w' := by
 have hu69 := Try.underlying69; have HR0 := am hr0; have HC0 := am hc0; clear hr0 hc0; have HR1 := am hr1; have HC1 := am hc1; clear hr1 hc1; have HB := am (Below.refl w.heap.size w); have H : (spec_l06Args.l0 k l0 l1 0) = some r := h; clear h; have H' := am H; clear H; go_enter Try.func79, Try.ntmps79; go_wp2; go_loopg [5] k (fun kq v5 w' => ∃ (x5_1 : Int), v5 = .int .i64 x5_1 ∧ Aside0 (spec_l06Args.l0 kq l0 l1 x5_1 = some r) ∧ Aside0 (kq ≤ k) ∧ Aside0 (Below w.heap.size w w'))
 case atStart => exact ⟨(0), (by rfl), H', ⟨Nat.le_refl _⟩, HB⟩
 case round =>
  clear H'; obtain ⟨x5_1, rfl, HA, HK1, HB⟩ := hrel
  cases gk with
  | zero => exact absurd HA.out (by simp [spec_l06Args.l0])
  | succ k1 =>
   have H := HA.out; clear HA; simp only [spec_l06Args.l0] at H; rcases cd H, H with ⟨⟨c3b0, H⟩ | ⟨c3b0, H⟩, -⟩
   ·rcases cn H, H with ⟨⟨c4b0, H⟩, -⟩; rcases ob H, H with ⟨⟨t248, A5, H⟩, -⟩; rcases cb H, H with ⟨⟨rfl, H⟩ | ⟨rfl, H⟩, -⟩
    ·have H' := am H; clear H; obtain ⟨p247, q247, ad247, A247_0, c247_0, e247, hx247_0, HC247_0, HR247_0⟩ := aw_T69 HB HR0 x5_1 oa oa; cases e247; go_wp2_with (((with_reducible refine gc 83 ?_); refine gl_ 17 Try.func83 #[.agg #[.slice A247_0 ((rd_T69 l0 x5_1).f0).length c247_0], .slice A1 l1.length c1] ?_; (with_reducible refine (spec_l06Known.calls k1 _ _ ((rd_T69 l0 x5_1).f0) _ _ l1 true _ ?side1 HC247_0.out ?side3 HC1.out A5.out).mono ?_); (case side1 => exact kb); (case side3 => exact kb); rintro e w7 ⟨rfl, hb⟩; refine ⟨_, rfl, ?_⟩; replace HB := am (below_step bw hb); (try clear hb))); go_roundg k1
     case measure => have := HK1.out; omega
     case rel => exact ⟨(wrap64 (x5_1 + 1)), (by rfl), H', ⟨by have := HK1.out; omega⟩, HB⟩
    ·obtain rfl := si H; obtain ⟨p247, q247, ad247, A247_0, c247_0, e247, hx247_0, HC247_0, HR247_0⟩ := aw_T69 HB HR0 x5_1 oa oa; cases e247; go_wp2_with (((with_reducible refine gc 83 ?_); refine gl_ 17 Try.func83 #[.agg #[.slice A247_0 ((rd_T69 l0 x5_1).f0).length c247_0], .slice A1 l1.length c1] ?_; (with_reducible refine (spec_l06Known.calls k1 _ _ ((rd_T69 l0 x5_1).f0) _ _ l1 false _ ?side1 HC247_0.out ?side3 HC1.out A5.out).mono ?_); (case side1 => exact kb); (case side3 => exact kb); rintro e w8 ⟨rfl, hb⟩; refine ⟨_, rfl, ?_⟩; replace HB := am (below_step bw hb); (try clear hb))); go_ret; exact ⟨by rfl, HB.out⟩
   ·obtain rfl := si H; go_wp2; go_ret; exact ⟨by rfl, HB.out⟩
def spec_l06Sym.j0 : Nat → List ByteArray → Bool → Int → ByteArray → List (S69) → ByteArray → Option (List ByteArray × Bool)
 | 0, _, _, _, _, _, _ => none
 | k + 1, x1, x81, x250000, x250001, x250002, x250003 => if x81 = true then (some (x1, false)) else (if x250003.toList = ([] : List UInt8) then (some (x1, true)) else ((spec_l03Put.f k x1 x250003).bind fun t254 => ((spec_VarName.f k x250003).bind fun t257 => (if t257 = true then ((spec_l03In.f k x1 x250003).bind fun t258 => (if t258 = true then (some (t254, false)) else (some (t254, decide ((t254.length : Int) ≤ 6))))) else (some (t254, false))))))
def spec_l06Sym.f (k : Nat) (a0_0 : Int) (a0_1 : ByteArray) (l0_2 : List (S69)) (a0_3 : ByteArray) (l1 : List ByteArray) (a2 : Int) : Option (List ByteArray × Bool) := if a0_0 = 1 then ((spec_l06Text.f k a0_1).bind fun t250 => (if t250 = true then (if (l0_2.length : Int) = 0 then (some (l1, (a0_3.toList == ([] : List UInt8)))) else (some (l1, false))) else (some (l1, false)))) else (if a0_0 = 2 then ((spec_SetOk.f k a0_1).bind fun t251 => (if t251 = true then (if (l0_2.length : Int) = 0 then (some (l1, (a0_3.toList == ([] : List UInt8)))) else (some (l1, false))) else (some (l1, false)))) else (if a0_0 = 4 then (if a0_1.toList = ([] : List UInt8) then (if a0_3.toList = ([] : List UInt8) then (if (l0_2.length : Int) = 1 then ((spec_l06Args.f k l0_2 l1).bind fun t252 => (some (l1, t252))) else (some (l1, false))) else (some (l1, false))) else (some (l1, false))) else (if a0_0 = 3 then (if (l0_2.length : Int) = a2 then ((spec_l06Args.f k l0_2 l1).bind fun t253 => (spec_l06Sym.j0 k l1 (!t253) a0_0 a0_1 l0_2 a0_3)) else (spec_l06Sym.j0 k l1 true a0_0 a0_1 l0_2 a0_3)) else (some (l1, false)))))
theorem spec_l06Sym.mono_l : ∀ k, (∀ y0 y1 y2 y3 y4 y5, LeO (spec_l06Sym.j0 k y0 y1 y2 y3 y4 y5) (spec_l06Sym.j0 (k + 1) y0 y1 y2 y3 y4 y5))
 | 0 => fun _ _ _ _ _ _ r h => by simp [spec_l06Sym.j0] at h
 | k + 1 => by
  have ih0 := spec_l06Sym.mono_l k
  ·intro y0 y1 y2 y3 y4 y5; unfold spec_l06Sym.j0; repeat' with_reducible first | exact spec_VarName.mono _ _ | exact spec_l03In.mono _ _ _ | exact spec_l03Put.mono _ _ _ | exact LeO.refl _ | refine LeO.ite ?_ ?_ | refine LeO.bind ?_ (fun _ => ?_)
theorem spec_l06Sym.mono : ∀ a0 a1 a2 a3 a4 a5 k, LeO (spec_l06Sym.f k a0 a1 a2 a3 a4 a5) (spec_l06Sym.f (k + 1) a0 a1 a2 a3 a4 a5) := by
 intro a0 a1 a2 a3 a4 a5 k; have ih0 := spec_l06Sym.mono_l k; unfold spec_l06Sym.f; repeat' with_reducible first | exact ih0 _ _ _ _ _ _ | exact spec_SetOk.mono _ _ | exact spec_l06Args.mono _ _ _ | exact spec_l06Text.mono _ _ | exact LeO.refl _ | refine LeO.ite ?_ ?_ | refine LeO.bind ?_ (fun _ => ?_)
def spec_l06Sym.T3 : Bool × List (List Nat × List Nat) := (true, [([], []), ([], []), ([1], [1]), ([2], [2]), ([3, 3], [3]), ([4], [4]), ([5, 4], [4, 5]), ([6, 4], [4, 6]), ([7, 4], [4, 7]), ([4, 8], [4, 8]), ([9, 4], [9]), ([10], [10]), ([11, 10], [10, 11]), ([12, 10], [10, 12]), ([10, 13], [10, 13]), ([0, 10, 0], [0]), ([14, 15, 0, 1, 2, 3, 4, 5, 6, 7, 8, 9, 10, 11, 12, 13, 14, 15], [14])])
def spec_l06Sym.B3 : List Nat := [0, 0, 2, 6, 14, 30, 62, 126, 254, 510, 1022, 2046, 4094, 8190, 16382, 2047, 65535]
theorem spec_l06Sym.tab3 : rtab .any (opsOf Try.f73 3) = spec_l06Sym.T3 := by kernel_rfl
theorem spec_l06Sym.bits3 : waitsOk spec_l06Sym.T3.2 spec_l06Sym.B3 = true := by kernel_rfl
def spec_l06Sym.T5 : Bool × List (List Nat × List Nat) := (true, [([], []), ([], []), ([1], [1]), ([2], [2]), ([3, 3], [3]), ([4], [4]), ([5, 4], [4, 5]), ([6, 4], [4, 6]), ([7, 4], [4, 7]), ([4, 8], [4, 8]), ([9, 4], [9]), ([10], [10]), ([11, 10], [10, 11]), ([12, 10], [10, 12]), ([10, 13], [10, 13]), ([0, 10, 0], [0]), ([14, 15, 0, 1, 2, 3, 4, 5, 6, 7, 8, 9, 10, 11, 12, 13, 14, 15], [14])])
def spec_l06Sym.B5 : List Nat := [0, 0, 2, 6, 14, 30, 62, 126, 254, 510, 1022, 2046, 4094, 8190, 16382, 2047, 65535]
theorem spec_l06Sym.tab5 : rtab .any (opsOf Try.f73 5) = spec_l06Sym.T5 := by kernel_rfl
theorem spec_l06Sym.bits5 : waitsOk spec_l06Sym.T5.2 spec_l06Sym.B5 = true := by kernel_rfl
theorem spec_l06Sym.calls (k : Nat) (a0_0 : Int) (a0_1 : ByteArray) (A0_2 : Option Addr) (c0_2 : Nat) (l0_2 : List (S69)) (a0_3 : ByteArray) (P1_ : Nat → Prop) (u9000_ : Value) (l1 : List ByteArray) (a2 : Int) (r1 : List ByteArray) (r2 : Bool) (w0 w : World) (hB : Below w0.heap.size w0 w) (hr0_2 : ∀ W_, Kept w W_ (fun k_ => P1_ k_) → Kd.C k69 W_ A0_2 l0_2.length l0_2) (hc0_2 : l0_2.length ≤ c0_2) (ho1 : Kd.R Kd.string 9 w w0.heap.size P1_ u9000_ l1) (h : spec_l06Sym.f k a0_0 a0_1 l0_2 a0_3 l1 a2 = some (r1, r2)) :
  Calls Try.prog 73 #[.agg #[.int .i64 a0_0, .string a0_1, .slice A0_2 l0_2.length c0_2, .string a0_3], u9000_, .int .i64 a2] w fun e w' => ∃ v0_ : Value, e = .returned (.tuple #[v0_, .bool r2]) ∧ Kd.R Kd.string 9 w' w0.heap.size (fun k_ => (P1_ k_ ∨ w.heap.size ≤ k_)) v0_ r1 ∧ Below w0.heap.size w0 w' ∧ Kept w w' (fun k_ => P1_ k_) := by
 have hu66 := Try.underlying66; have HR0_2 := am hr0_2; have HC0_2 := am hc0_2; clear hr0_2 hc0_2; have HO1 := am (show Kd.R Kd.string 9 w w0.heap.size (fun k_ => (P1_ k_ ∨ w.heap.size ≤ k_)) u9000_ l1 from Kd.R_mono ho1 (fun k_ hk => (.inl hk))); have HK := am (Kept.refl w (fun k_ => P1_ k_)); have HW0 := am hB.size; have HB := am hB; clear hB; have H := h; unfold spec_l06Sym.f at H; clear h; rcases ce H, H with ⟨⟨-, c4b0, c4b1, H⟩ | ⟨c4, c4b0, c4b1, H⟩, -⟩
 ·rcases ob H, H with ⟨⟨t250, A5, H⟩, -⟩; rcases cb H, H with ⟨⟨rfl, H⟩ | ⟨rfl, H⟩, -⟩
  ·rcases ce H, H with ⟨⟨-, c7b0, c7b1, H⟩ | ⟨c7, c7b0, c7b1, H⟩, -⟩
   ·obtain ⟨rfl, rfl⟩ := s2 H; go_enter Try.func73, Try.ntmps73; try go_wp2_with (((with_reducible refine gd 3 ?_); refine bx_ #[.int .i64 a0_0, .string a0_1, .slice A0_2 l0_2.length c0_2, .string a0_3] 66 ?_; intro gb249 hg w8 hbox hb; have BK249 := am (hbox); have GW249 := am ((by rw [hg]; exact (by exact HK.out.1) : w.heap.size ≤ gb249)); have GE249 := am ((bz bw hg : w0.heap.size ≤ gb249)); replace HO1 := am (Kd.R_below HO1.out hb); replace HK := am (Kept.below (S := (fun k_ => P1_ k_)) HK.out hb); replace HB := am (below_step bw hb); clear hb hbox hg; have z9 := bc4 BK249.out))
    have n0_ := am (Kd.R_drew HO1.out); have n1_ := am (blk_drew BK249.out); have n2_ := am (Kept.drew HK.out); have n3_ := am (below_drew1 HB.out); clear HO1; clear BK249; clear HK; clear HB; have HO1 := n0_; have BK249 := n1_; have HK := n2_; have HB := n3_; clear n0_ n1_ n2_ n3_; refine start_ (n := 17) (S := fun w' => w'.cell? ⟨gb249, 0, none⟩ = some (.int .i64 a0_0) ∧ w'.cell? ⟨gb249, 1, none⟩ = some (.string a0_1) ∧ w'.cell? ⟨gb249, 2, none⟩ = some (.slice A0_2 l0_2.length c0_2) ∧ w'.cell? ⟨gb249, 3, none⟩ = some (.string a0_3)) (ds := []) (bmk 17 0) (by kernel_rfl) rfl rfl ⟨(blk_cell BK249.out 0).trans rfl, (blk_cell BK249.out 1).trans rfl, (blk_cell BK249.out 2).trans rfl, (blk_cell BK249.out 3).trans rfl⟩ (fun hHeld => ?_); refine with_tabW spec_l06Sym.tab3 spec_l06Sym.bits3 (fun HT_ HW_ => ?_); generalize w8.drew = w10 at HO1 BK249 HK HB hHeld ⊢; refine py_ 0 (some 13) (bmk 17 1) HT_ ?_; refine py_ 1 (some 14) (bmk 17 3) HT_ ?_; refine tk_ 2 (some 15) (bmk 17 7) HT_ HW_ hHeld ?_; refine on_ 3 (some 16) (bmk 17 15) HT_ (fun K hK => ?_); refine gs_ Try.func78 #[.string a0_1] ?_; with_reducible refine (spec_l06Text.calls k a0_1 true _ A5.out).mono ?_
    rintro e w' ⟨rfl, ⟨nd, rfl⟩⟩; refine ⟨_, rfl, ?_⟩; refine hK.out _ _ ⟨(blk_cell BK249.out 0).trans rfl, (blk_cell BK249.out 1).trans rfl, (blk_cell BK249.out 2).trans rfl, (blk_cell BK249.out 3).trans rfl⟩ (fun hHeld => ?_); clear hK K; refine nn_ (some 16) ?_; refine py_ 4 (some 17) (bmk 17 31) HT_ ?_; refine py_ 5 (some 18) (bmk 17 63) HT_ ?_; refine tk_ 6 (some 19) (bmk 17 127) HT_ HW_ hHeld ?_; refine py_ 7 (some 20) (bmk 17 255) HT_ ?_; refine py_ 8 (some 21) (bmk 17 511) HT_ ?_; refine py_ 9 (some 22) (bmk 17 1023) HT_ ?_; refine py_ 10 (some 23) (bmk 17 2047) HT_ ?_; refine py_ 11 (some 24) (bmk 17 4095) HT_ ?_; refine py_ 15 (some 6) (bmk 17 36863) HT_ ?_; refine tk_ 12 (some 25) (bmk 17 40959) HT_ HW_ hHeld ?_; refine py_ 13 (some 26) (bmk 17 49151) HT_ ?_; refine py_ 14 (some 27) (bmk 17 65535) HT_ ?_; refine py_ 16 (some 7) (bmk 17 131071) HT_ ?_; refine done_ (done_of HT_.out (by kernel_rfl)) ?_; try go_wp2
    go_ret2
    exact ⟨_, by (simp [errW_none, errW_some] <;> rfl), by (with_reducible repeat (apply Kd.R_drewN)); exact HO1.out, bw, by repeat ((with_reducible first | exact HK.out | apply Kept.drewN))⟩
   ·have c7b2 : ¬ (l0_2 = []) := fun h_ => c7 (by rw [h_]; rfl)
    obtain ⟨rfl, rfl⟩ := s2 H; go_enter Try.func73, Try.ntmps73; try go_wp2_with (((with_reducible refine gd 3 ?_); refine bx_ #[.int .i64 a0_0, .string a0_1, .slice A0_2 l0_2.length c0_2, .string a0_3] 66 ?_; intro gb249 hg w11 hbox hb; have BK249 := am (hbox); have GW249 := am ((by rw [hg]; exact (by exact HK.out.1) : w.heap.size ≤ gb249)); have GE249 := am ((bz bw hg : w0.heap.size ≤ gb249)); replace HO1 := am (Kd.R_below HO1.out hb); replace HK := am (Kept.below (S := (fun k_ => P1_ k_)) HK.out hb); replace HB := am (below_step bw hb); clear hb hbox hg; have z12 := bc4 BK249.out))
    have n0_ := am (Kd.R_drew HO1.out); have n1_ := am (blk_drew BK249.out); have n2_ := am (Kept.drew HK.out); have n3_ := am (below_drew1 HB.out); clear HO1; clear BK249; clear HK; clear HB; have HO1 := n0_; have BK249 := n1_; have HK := n2_; have HB := n3_; clear n0_ n1_ n2_ n3_; refine start_ (n := 17) (S := fun w' => w'.cell? ⟨gb249, 0, none⟩ = some (.int .i64 a0_0) ∧ w'.cell? ⟨gb249, 1, none⟩ = some (.string a0_1) ∧ w'.cell? ⟨gb249, 2, none⟩ = some (.slice A0_2 l0_2.length c0_2) ∧ w'.cell? ⟨gb249, 3, none⟩ = some (.string a0_3)) (ds := []) (bmk 17 0) (by kernel_rfl) rfl rfl ⟨(blk_cell BK249.out 0).trans rfl, (blk_cell BK249.out 1).trans rfl, (blk_cell BK249.out 2).trans rfl, (blk_cell BK249.out 3).trans rfl⟩ (fun hHeld => ?_); refine with_tabW spec_l06Sym.tab3 spec_l06Sym.bits3 (fun HT_ HW_ => ?_); generalize w11.drew = w13 at HO1 BK249 HK HB hHeld ⊢; refine py_ 0 (some 13) (bmk 17 1) HT_ ?_; refine py_ 1 (some 14) (bmk 17 3) HT_ ?_; refine tk_ 2 (some 15) (bmk 17 7) HT_ HW_ hHeld ?_; refine on_ 3 (some 16) (bmk 17 15) HT_ (fun K hK => ?_); refine gs_ Try.func78 #[.string a0_1] ?_; with_reducible refine (spec_l06Text.calls k a0_1 true _ A5.out).mono ?_
    rintro e w' ⟨rfl, ⟨nd, rfl⟩⟩; refine ⟨_, rfl, ?_⟩; refine hK.out _ _ ⟨(blk_cell BK249.out 0).trans rfl, (blk_cell BK249.out 1).trans rfl, (blk_cell BK249.out 2).trans rfl, (blk_cell BK249.out 3).trans rfl⟩ (fun hHeld => ?_); clear hK K; refine nn_ (some 16) ?_; refine py_ 4 (some 17) (bmk 17 31) HT_ ?_; refine py_ 5 (some 18) (bmk 17 63) HT_ ?_; refine tk_ 6 (some 19) (bmk 17 127) HT_ HW_ hHeld ?_; refine py_ 7 (some 20) (bmk 17 255) HT_ ?_; refine py_ 8 (some 21) (bmk 17 511) HT_ ?_; refine py_ 9 (some 22) (bmk 17 1023) HT_ ?_; refine py_ 10 (some 23) (bmk 17 2047) HT_ ?_; refine un_ 11 (some 24) (bmk 17 4095) HT_ ?_; refine un_ 12 (some 25) (bmk 17 8191) HT_ ?_; refine un_ 13 (some 26) (bmk 17 16383) HT_ ?_; refine py_ 14 (some 27) (bmk 17 32767) HT_ ?_; refine py_ 15 (some 6) (bmk 17 65535) HT_ ?_; refine py_ 16 (some 7) (bmk 17 131071) HT_ ?_; refine done_ (done_of HT_.out (by kernel_rfl)) ?_; try go_wp2
    go_ret2
    exact ⟨_, by rfl, by (with_reducible repeat (apply Kd.R_drewN)); exact HO1.out, bw, by repeat ((with_reducible first | exact HK.out | apply Kept.drewN))⟩
  ·obtain ⟨rfl, rfl⟩ := s2 H; go_enter Try.func73, Try.ntmps73; try go_wp2_with (((with_reducible refine gd 3 ?_); refine bx_ #[.int .i64 a0_0, .string a0_1, .slice A0_2 l0_2.length c0_2, .string a0_3] 66 ?_; intro gb249 hg w14 hbox hb; have BK249 := am (hbox); have GW249 := am ((by rw [hg]; exact (by exact HK.out.1) : w.heap.size ≤ gb249)); have GE249 := am ((bz bw hg : w0.heap.size ≤ gb249)); replace HO1 := am (Kd.R_below HO1.out hb); replace HK := am (Kept.below (S := (fun k_ => P1_ k_)) HK.out hb); replace HB := am (below_step bw hb); clear hb hbox hg; have z15 := bc4 BK249.out))
   have n0_ := am (Kd.R_drew HO1.out); have n1_ := am (blk_drew BK249.out); have n2_ := am (Kept.drew HK.out); have n3_ := am (below_drew1 HB.out); clear HO1; clear BK249; clear HK; clear HB; have HO1 := n0_; have BK249 := n1_; have HK := n2_; have HB := n3_; clear n0_ n1_ n2_ n3_; refine start_ (n := 17) (S := fun w' => w'.cell? ⟨gb249, 0, none⟩ = some (.int .i64 a0_0) ∧ w'.cell? ⟨gb249, 1, none⟩ = some (.string a0_1) ∧ w'.cell? ⟨gb249, 2, none⟩ = some (.slice A0_2 l0_2.length c0_2) ∧ w'.cell? ⟨gb249, 3, none⟩ = some (.string a0_3)) (ds := []) (bmk 17 0) (by kernel_rfl) rfl rfl ⟨(blk_cell BK249.out 0).trans rfl, (blk_cell BK249.out 1).trans rfl, (blk_cell BK249.out 2).trans rfl, (blk_cell BK249.out 3).trans rfl⟩ (fun hHeld => ?_); refine with_tabW spec_l06Sym.tab3 spec_l06Sym.bits3 (fun HT_ HW_ => ?_); generalize w14.drew = w16 at HO1 BK249 HK HB hHeld ⊢; refine py_ 0 (some 13) (bmk 17 1) HT_ ?_; refine py_ 1 (some 14) (bmk 17 3) HT_ ?_; refine tk_ 2 (some 15) (bmk 17 7) HT_ HW_ hHeld ?_; refine on_ 3 (some 16) (bmk 17 15) HT_ (fun K hK => ?_); refine gs_ Try.func78 #[.string a0_1] ?_; with_reducible refine (spec_l06Text.calls k a0_1 false _ A5.out).mono ?_
   rintro e w' ⟨rfl, ⟨nd, rfl⟩⟩; refine ⟨_, rfl, ?_⟩; refine hK.out _ _ ⟨(blk_cell BK249.out 0).trans rfl, (blk_cell BK249.out 1).trans rfl, (blk_cell BK249.out 2).trans rfl, (blk_cell BK249.out 3).trans rfl⟩ (fun hHeld => ?_); clear hK K; refine nn_ (some 16) ?_; refine py_ 4 (some 17) (bmk 17 31) HT_ ?_; refine un_ 5 (some 18) (bmk 17 63) HT_ ?_; refine un_ 6 (some 19) (bmk 17 127) HT_ ?_; refine un_ 7 (some 20) (bmk 17 255) HT_ ?_; refine un_ 8 (some 21) (bmk 17 511) HT_ ?_; refine py_ 9 (some 22) (bmk 17 1023) HT_ ?_; refine py_ 10 (some 23) (bmk 17 2047) HT_ ?_; refine un_ 11 (some 24) (bmk 17 4095) HT_ ?_; refine un_ 12 (some 25) (bmk 17 8191) HT_ ?_; refine un_ 13 (some 26) (bmk 17 16383) HT_ ?_; refine py_ 14 (some 27) (bmk 17 32767) HT_ ?_; refine py_ 15 (some 6) (bmk 17 65535) HT_ ?_; refine py_ 16 (some 7) (bmk 17 131071) HT_ ?_; refine done_ (done_of HT_.out (by kernel_rfl)) ?_; try go_wp2
   go_ret2
   exact ⟨_, by rfl, by (with_reducible repeat (apply Kd.R_drewN)); exact HO1.out, bw, by repeat ((with_reducible first | exact HK.out | apply Kept.drewN))⟩
 ·rcases ce H, H with ⟨⟨-, c17b0, c17b1, H⟩ | ⟨c17, c17b0, c17b1, H⟩, -⟩
  ·rcases ob H, H with ⟨⟨t251, A18, H⟩, -⟩; rcases cb H, H with ⟨⟨rfl, H⟩ | ⟨rfl, H⟩, -⟩
   ·rcases ce H, H with ⟨⟨-, c20b0, c20b1, H⟩ | ⟨c20, c20b0, c20b1, H⟩, -⟩
    ·obtain ⟨rfl, rfl⟩ := s2 H; go_enter Try.func73, Try.ntmps73; try go_wp2_with (((with_reducible refine gd 3 ?_); refine bx_ #[.int .i64 a0_0, .string a0_1, .slice A0_2 l0_2.length c0_2, .string a0_3] 66 ?_; intro gb249 hg w21 hbox hb; have BK249 := am (hbox); have GW249 := am ((by rw [hg]; exact (by exact HK.out.1) : w.heap.size ≤ gb249)); have GE249 := am ((bz bw hg : w0.heap.size ≤ gb249)); replace HO1 := am (Kd.R_below HO1.out hb); replace HK := am (Kept.below (S := (fun k_ => P1_ k_)) HK.out hb); replace HB := am (below_step bw hb); clear hb hbox hg; have z22 := bc4 BK249.out))
     have n0_ := am (Kd.R_drew HO1.out); have n1_ := am (blk_drew BK249.out); have n2_ := am (Kept.drew HK.out); have n3_ := am (below_drew1 HB.out); clear HO1; clear BK249; clear HK; clear HB; have HO1 := n0_; have BK249 := n1_; have HK := n2_; have HB := n3_; clear n0_ n1_ n2_ n3_; refine start_ (n := 17) (S := fun w' => w'.cell? ⟨gb249, 0, none⟩ = some (.int .i64 a0_0) ∧ w'.cell? ⟨gb249, 1, none⟩ = some (.string a0_1) ∧ w'.cell? ⟨gb249, 2, none⟩ = some (.slice A0_2 l0_2.length c0_2) ∧ w'.cell? ⟨gb249, 3, none⟩ = some (.string a0_3)) (ds := []) (bmk 17 0) (by kernel_rfl) rfl rfl ⟨(blk_cell BK249.out 0).trans rfl, (blk_cell BK249.out 1).trans rfl, (blk_cell BK249.out 2).trans rfl, (blk_cell BK249.out 3).trans rfl⟩ (fun hHeld => ?_); refine with_tabW spec_l06Sym.tab5 spec_l06Sym.bits5 (fun HT_ HW_ => ?_); generalize w21.drew = w23 at HO1 BK249 HK HB hHeld ⊢; refine py_ 0 (some 30) (bmk 17 1) HT_ ?_; refine py_ 1 (some 31) (bmk 17 3) HT_ ?_; refine tk_ 2 (some 32) (bmk 17 7) HT_ HW_ hHeld ?_; refine on_ 3 (some 33) (bmk 17 15) HT_ (fun K hK => ?_); refine gs_ Try.func59 #[.string a0_1] ?_; with_reducible refine (spec_SetOk.calls k a0_1 true _ A18.out).mono ?_
     rintro e w24 ⟨rfl, hb⟩; refine ⟨_, rfl, ?_⟩; have n0_ := am (Kd.R_below HO1.out hb); have n1_ := am (blk_below (g := gb249) (o := .cells #[.int .i64 a0_0, .string a0_1, .slice A0_2 l0_2.length c0_2, .string a0_3] 66 (0, 0)) bx hb); have n2_ := am (Kept.below (S := (fun k_ => P1_ k_)) HK.out hb); have n3_ := am (below_step bw hb); clear HO1; clear BK249; clear HK; clear HB; have HO1 := n0_; have BK249 := n1_; have HK := n2_; have HB := n3_; clear n0_ n1_ n2_ n3_; (try clear hb); skip
     skip
     skip
     refine hK.out _ _ ⟨(blk_cell BK249.out 0).trans rfl, (blk_cell BK249.out 1).trans rfl, (blk_cell BK249.out 2).trans rfl, (blk_cell BK249.out 3).trans rfl⟩ (fun hHeld => ?_); clear hK K; refine nn_ (some 33) ?_; refine py_ 4 (some 34) (bmk 17 31) HT_ ?_; refine py_ 5 (some 35) (bmk 17 63) HT_ ?_; refine tk_ 6 (some 36) (bmk 17 127) HT_ HW_ hHeld ?_; refine py_ 7 (some 37) (bmk 17 255) HT_ ?_; refine py_ 8 (some 38) (bmk 17 511) HT_ ?_; refine py_ 9 (some 39) (bmk 17 1023) HT_ ?_; refine py_ 10 (some 40) (bmk 17 2047) HT_ ?_; refine py_ 11 (some 41) (bmk 17 4095) HT_ ?_; refine py_ 15 (some 6) (bmk 17 36863) HT_ ?_; refine tk_ 12 (some 42) (bmk 17 40959) HT_ HW_ hHeld ?_; refine py_ 13 (some 43) (bmk 17 49151) HT_ ?_; refine py_ 14 (some 44) (bmk 17 65535) HT_ ?_; refine py_ 16 (some 7) (bmk 17 131071) HT_ ?_; refine done_ (done_of HT_.out (by kernel_rfl)) ?_; try go_wp2
     go_ret2
     exact ⟨_, by (simp [errW_none, errW_some] <;> rfl), by exact HO1.out, HB.out, HK.out⟩
    ·have c20b2 : ¬ (l0_2 = []) := fun h_ => c20 (by rw [h_]; rfl)
     obtain ⟨rfl, rfl⟩ := s2 H; go_enter Try.func73, Try.ntmps73; try go_wp2_with (((with_reducible refine gd 3 ?_); refine bx_ #[.int .i64 a0_0, .string a0_1, .slice A0_2 l0_2.length c0_2, .string a0_3] 66 ?_; intro gb249 hg w25 hbox hb; have BK249 := am (hbox); have GW249 := am ((by rw [hg]; exact (by exact HK.out.1) : w.heap.size ≤ gb249)); have GE249 := am ((bz bw hg : w0.heap.size ≤ gb249)); replace HO1 := am (Kd.R_below HO1.out hb); replace HK := am (Kept.below (S := (fun k_ => P1_ k_)) HK.out hb); replace HB := am (below_step bw hb); clear hb hbox hg; have z26 := bc4 BK249.out))
     have n0_ := am (Kd.R_drew HO1.out); have n1_ := am (blk_drew BK249.out); have n2_ := am (Kept.drew HK.out); have n3_ := am (below_drew1 HB.out); clear HO1; clear BK249; clear HK; clear HB; have HO1 := n0_; have BK249 := n1_; have HK := n2_; have HB := n3_; clear n0_ n1_ n2_ n3_; refine start_ (n := 17) (S := fun w' => w'.cell? ⟨gb249, 0, none⟩ = some (.int .i64 a0_0) ∧ w'.cell? ⟨gb249, 1, none⟩ = some (.string a0_1) ∧ w'.cell? ⟨gb249, 2, none⟩ = some (.slice A0_2 l0_2.length c0_2) ∧ w'.cell? ⟨gb249, 3, none⟩ = some (.string a0_3)) (ds := []) (bmk 17 0) (by kernel_rfl) rfl rfl ⟨(blk_cell BK249.out 0).trans rfl, (blk_cell BK249.out 1).trans rfl, (blk_cell BK249.out 2).trans rfl, (blk_cell BK249.out 3).trans rfl⟩ (fun hHeld => ?_); refine with_tabW spec_l06Sym.tab5 spec_l06Sym.bits5 (fun HT_ HW_ => ?_); generalize w25.drew = w27 at HO1 BK249 HK HB hHeld ⊢; refine py_ 0 (some 30) (bmk 17 1) HT_ ?_; refine py_ 1 (some 31) (bmk 17 3) HT_ ?_; refine tk_ 2 (some 32) (bmk 17 7) HT_ HW_ hHeld ?_; refine on_ 3 (some 33) (bmk 17 15) HT_ (fun K hK => ?_); refine gs_ Try.func59 #[.string a0_1] ?_; with_reducible refine (spec_SetOk.calls k a0_1 true _ A18.out).mono ?_
     rintro e w28 ⟨rfl, hb⟩; refine ⟨_, rfl, ?_⟩; have n0_ := am (Kd.R_below HO1.out hb); have n1_ := am (blk_below (g := gb249) (o := .cells #[.int .i64 a0_0, .string a0_1, .slice A0_2 l0_2.length c0_2, .string a0_3] 66 (0, 0)) bx hb); have n2_ := am (Kept.below (S := (fun k_ => P1_ k_)) HK.out hb); have n3_ := am (below_step bw hb); clear HO1; clear BK249; clear HK; clear HB; have HO1 := n0_; have BK249 := n1_; have HK := n2_; have HB := n3_; clear n0_ n1_ n2_ n3_; (try clear hb); skip
     skip
     skip
     refine hK.out _ _ ⟨(blk_cell BK249.out 0).trans rfl, (blk_cell BK249.out 1).trans rfl, (blk_cell BK249.out 2).trans rfl, (blk_cell BK249.out 3).trans rfl⟩ (fun hHeld => ?_); clear hK K; refine nn_ (some 33) ?_; refine py_ 4 (some 34) (bmk 17 31) HT_ ?_; refine py_ 5 (some 35) (bmk 17 63) HT_ ?_; refine tk_ 6 (some 36) (bmk 17 127) HT_ HW_ hHeld ?_; refine py_ 7 (some 37) (bmk 17 255) HT_ ?_; refine py_ 8 (some 38) (bmk 17 511) HT_ ?_; refine py_ 9 (some 39) (bmk 17 1023) HT_ ?_; refine py_ 10 (some 40) (bmk 17 2047) HT_ ?_; refine un_ 11 (some 41) (bmk 17 4095) HT_ ?_; refine un_ 12 (some 42) (bmk 17 8191) HT_ ?_; refine un_ 13 (some 43) (bmk 17 16383) HT_ ?_; refine py_ 14 (some 44) (bmk 17 32767) HT_ ?_; refine py_ 15 (some 6) (bmk 17 65535) HT_ ?_; refine py_ 16 (some 7) (bmk 17 131071) HT_ ?_; refine done_ (done_of HT_.out (by kernel_rfl)) ?_; try go_wp2
     go_ret2
     exact ⟨_, by rfl, by exact HO1.out, HB.out, HK.out⟩
   ·obtain ⟨rfl, rfl⟩ := s2 H; go_enter Try.func73, Try.ntmps73; try go_wp2_with (((with_reducible refine gd 3 ?_); refine bx_ #[.int .i64 a0_0, .string a0_1, .slice A0_2 l0_2.length c0_2, .string a0_3] 66 ?_; intro gb249 hg w29 hbox hb; have BK249 := am (hbox); have GW249 := am ((by rw [hg]; exact (by exact HK.out.1) : w.heap.size ≤ gb249)); have GE249 := am ((bz bw hg : w0.heap.size ≤ gb249)); replace HO1 := am (Kd.R_below HO1.out hb); replace HK := am (Kept.below (S := (fun k_ => P1_ k_)) HK.out hb); replace HB := am (below_step bw hb); clear hb hbox hg; have z30 := bc4 BK249.out))
    have n0_ := am (Kd.R_drew HO1.out); have n1_ := am (blk_drew BK249.out); have n2_ := am (Kept.drew HK.out); have n3_ := am (below_drew1 HB.out); clear HO1; clear BK249; clear HK; clear HB; have HO1 := n0_; have BK249 := n1_; have HK := n2_; have HB := n3_; clear n0_ n1_ n2_ n3_; refine start_ (n := 17) (S := fun w' => w'.cell? ⟨gb249, 0, none⟩ = some (.int .i64 a0_0) ∧ w'.cell? ⟨gb249, 1, none⟩ = some (.string a0_1) ∧ w'.cell? ⟨gb249, 2, none⟩ = some (.slice A0_2 l0_2.length c0_2) ∧ w'.cell? ⟨gb249, 3, none⟩ = some (.string a0_3)) (ds := []) (bmk 17 0) (by kernel_rfl) rfl rfl ⟨(blk_cell BK249.out 0).trans rfl, (blk_cell BK249.out 1).trans rfl, (blk_cell BK249.out 2).trans rfl, (blk_cell BK249.out 3).trans rfl⟩ (fun hHeld => ?_); refine with_tabW spec_l06Sym.tab5 spec_l06Sym.bits5 (fun HT_ HW_ => ?_); generalize w29.drew = w31 at HO1 BK249 HK HB hHeld ⊢; refine py_ 0 (some 30) (bmk 17 1) HT_ ?_; refine py_ 1 (some 31) (bmk 17 3) HT_ ?_; refine tk_ 2 (some 32) (bmk 17 7) HT_ HW_ hHeld ?_; refine on_ 3 (some 33) (bmk 17 15) HT_ (fun K hK => ?_); refine gs_ Try.func59 #[.string a0_1] ?_; with_reducible refine (spec_SetOk.calls k a0_1 false _ A18.out).mono ?_
    rintro e w32 ⟨rfl, hb⟩; refine ⟨_, rfl, ?_⟩; have n0_ := am (Kd.R_below HO1.out hb); have n1_ := am (blk_below (g := gb249) (o := .cells #[.int .i64 a0_0, .string a0_1, .slice A0_2 l0_2.length c0_2, .string a0_3] 66 (0, 0)) bx hb); have n2_ := am (Kept.below (S := (fun k_ => P1_ k_)) HK.out hb); have n3_ := am (below_step bw hb); clear HO1; clear BK249; clear HK; clear HB; have HO1 := n0_; have BK249 := n1_; have HK := n2_; have HB := n3_; clear n0_ n1_ n2_ n3_; (try clear hb); skip
    skip
    skip
    refine hK.out _ _ ⟨(blk_cell BK249.out 0).trans rfl, (blk_cell BK249.out 1).trans rfl, (blk_cell BK249.out 2).trans rfl, (blk_cell BK249.out 3).trans rfl⟩ (fun hHeld => ?_); clear hK K; refine nn_ (some 33) ?_; refine py_ 4 (some 34) (bmk 17 31) HT_ ?_; refine un_ 5 (some 35) (bmk 17 63) HT_ ?_; refine un_ 6 (some 36) (bmk 17 127) HT_ ?_; refine un_ 7 (some 37) (bmk 17 255) HT_ ?_; refine un_ 8 (some 38) (bmk 17 511) HT_ ?_; refine py_ 9 (some 39) (bmk 17 1023) HT_ ?_; refine py_ 10 (some 40) (bmk 17 2047) HT_ ?_; refine un_ 11 (some 41) (bmk 17 4095) HT_ ?_; refine un_ 12 (some 42) (bmk 17 8191) HT_ ?_; refine un_ 13 (some 43) (bmk 17 16383) HT_ ?_; refine py_ 14 (some 44) (bmk 17 32767) HT_ ?_; refine py_ 15 (some 6) (bmk 17 65535) HT_ ?_; refine py_ 16 (some 7) (bmk 17 131071) HT_ ?_; refine done_ (done_of HT_.out (by kernel_rfl)) ?_; try go_wp2
    go_ret2
    exact ⟨_, by rfl, by exact HO1.out, HB.out, HK.out⟩
  ·rcases ce H, H with ⟨⟨-, c33b0, c33b1, H⟩ | ⟨c33, c33b0, c33b1, H⟩, -⟩
   ·rcases ce H, H with ⟨⟨-, c34b0, c34b1, H⟩ | ⟨c34, c34b0, c34b1, H⟩, -⟩
    ·rcases ce H, H with ⟨⟨-, c35b0, c35b1, H⟩ | ⟨c35, c35b0, c35b1, H⟩, -⟩
     ·rcases ce H, H with ⟨⟨-, c36b0, c36b1, H⟩ | ⟨c36, c36b0, c36b1, H⟩, -⟩
      ·rcases ob H, H with ⟨⟨t252, A37, H⟩, -⟩; obtain ⟨rfl, rfl⟩ := s2 H; go_enter Try.func73, Try.ntmps73; go_wp2_with (first | ((with_reducible refine gd 3 ?_); refine bx_ #[.int .i64 a0_0, .string a0_1, .slice A0_2 l0_2.length c0_2, .string a0_3] 66 ?_; intro gb249 hg w38 hbox hb; have BK249 := am (hbox); have GW249 := am ((by rw [hg]; exact (by exact HK.out.1) : w.heap.size ≤ gb249)); have GE249 := am ((bz bw hg : w0.heap.size ≤ gb249)); replace HO1 := am (Kd.R_below HO1.out hb); replace HK := am (Kept.below (S := (fun k_ => P1_ k_)) HK.out hb); replace HB := am (below_step bw hb); clear hb hbox hg; have z39 := bc4 BK249.out; obtain ⟨Ao40, co40, eo40⟩ := Kd.R_slice HO1.out; subst eo40) | (go_at_call 79; (with_reducible refine (spec_l06Args.calls k _ _ l0_2 _ _ l1 t252 _ ?side1 HC0_2.out ?side3 ?side4 A37.out).mono ?_); (case side1 => exact Kd.C_kept_now HR0_2.out HK.out); (case side3 => repeat ((exact (Kd.R_reads' HO1.out).2.2))); (case side4 => exact (Kd.R_reads' HO1.out).2.1); rintro e w41 ⟨rfl, hb⟩; replace HO1 := am (Kd.R_below HO1.out hb); replace BK249 := bb BK249 hb; replace HK := am (Kept.below (S := (fun k_ => P1_ k_)) HK.out hb); replace HB := am (below_step bw hb); (try clear hb))); go_ret2
       exact ⟨_, by rfl, by exact HO1.out, HB.out, HK.out⟩
      ·obtain ⟨rfl, rfl⟩ := s2 H; go_enter Try.func73, Try.ntmps73; go_wp2_with (((with_reducible refine gd 3 ?_); refine bx_ #[.int .i64 a0_0, .string a0_1, .slice A0_2 l0_2.length c0_2, .string a0_3] 66 ?_; intro gb249 hg w42 hbox hb; have BK249 := am (hbox); have GW249 := am ((by rw [hg]; exact (by exact HK.out.1) : w.heap.size ≤ gb249)); have GE249 := am ((bz bw hg : w0.heap.size ≤ gb249)); replace HO1 := am (Kd.R_below HO1.out hb); replace HK := am (Kept.below (S := (fun k_ => P1_ k_)) HK.out hb); replace HB := am (below_step bw hb); clear hb hbox hg; have z43 := bc4 BK249.out)); go_ret2
       exact ⟨_, by rfl, by exact HO1.out, HB.out, HK.out⟩
     ·obtain ⟨rfl, rfl⟩ := s2 H; go_enter Try.func73, Try.ntmps73; go_wp2_with (((with_reducible refine gd 3 ?_); refine bx_ #[.int .i64 a0_0, .string a0_1, .slice A0_2 l0_2.length c0_2, .string a0_3] 66 ?_; intro gb249 hg w44 hbox hb; have BK249 := am (hbox); have GW249 := am ((by rw [hg]; exact (by exact HK.out.1) : w.heap.size ≤ gb249)); have GE249 := am ((bz bw hg : w0.heap.size ≤ gb249)); replace HO1 := am (Kd.R_below HO1.out hb); replace HK := am (Kept.below (S := (fun k_ => P1_ k_)) HK.out hb); replace HB := am (below_step bw hb); clear hb hbox hg; have z45 := bc4 BK249.out)); go_ret2
      exact ⟨_, by rfl, by exact HO1.out, HB.out, HK.out⟩
    ·obtain ⟨rfl, rfl⟩ := s2 H; go_enter Try.func73, Try.ntmps73; go_wp2_with (((with_reducible refine gd 3 ?_); refine bx_ #[.int .i64 a0_0, .string a0_1, .slice A0_2 l0_2.length c0_2, .string a0_3] 66 ?_; intro gb249 hg w46 hbox hb; have BK249 := am (hbox); have GW249 := am ((by rw [hg]; exact (by exact HK.out.1) : w.heap.size ≤ gb249)); have GE249 := am ((bz bw hg : w0.heap.size ≤ gb249)); replace HO1 := am (Kd.R_below HO1.out hb); replace HK := am (Kept.below (S := (fun k_ => P1_ k_)) HK.out hb); replace HB := am (below_step bw hb); clear hb hbox hg; have z47 := bc4 BK249.out)); go_ret2
     exact ⟨_, by rfl, by exact HO1.out, HB.out, HK.out⟩
   ·rcases ce H, H with ⟨⟨-, c48b0, c48b1, H⟩ | ⟨c48, c48b0, c48b1, H⟩, -⟩
    ·have HC49 := am H; clear H; go_enter Try.func73, Try.ntmps73; go_upto_region 9 with (((with_reducible refine gd 3 ?_); refine bx_ #[.int .i64 a0_0, .string a0_1, .slice A0_2 l0_2.length c0_2, .string a0_3] 66 ?_; intro gb249 hg w50 hbox hb; have BK249 := am (hbox); have GW249 := am ((by rw [hg]; exact (by exact HK.out.1) : w.heap.size ≤ gb249)); have GE249 := am ((bz bw hg : w0.heap.size ≤ gb249)); replace HO1 := am (Kd.R_below HO1.out hb); replace HK := am (Kept.below (S := (fun k_ => P1_ k_)) HK.out hb); replace HB := am (below_step bw hb); clear hb hbox hg; obtain ⟨hcz51_0, hcz51_1, hcz51_2, hcz51_3, hfz51_0, hfz51_1, hfz51_2, hfz51_3⟩ := bc4 BK249.out)); (try simp only [ap]); go_cut [81] (fun v81 wc => ∃ (kq : Nat) (x81_48 : Bool), v81 = .bool x81_48 ∧ Aside0 (spec_l06Sym.j0 kq l1 x81_48 a0_0 a0_1 l0_2 a0_3 = some (r1, r2)) ∧ Aside0 (kq ≤ k) ∧ Aside0 (Kd.R Kd.string 9 wc w0.heap.size (fun k_ => (P1_ k_ ∨ w.heap.size ≤ k_)) u9000_ l1) ∧ Aside0 (wc.heap[gb249]? = some (.cells #[.int .i64 a0_0, .string a0_1, (.slice A0_2 l0_2.length c0_2), .string a0_3] 66 (0, 0))) ∧ Aside0 (Kept w wc (fun k_ => P1_ k_)) ∧ Aside0 (Below w0.heap.size w0 wc))
     case first =>
      have H := HC49.out; clear HC49; rcases ce H, H with ⟨⟨-, c52b0, c52b1, H⟩ | ⟨c52, c52b0, c52b1, H⟩, -⟩
      ·(skip); rcases ob H, H with ⟨⟨t253, A53, H⟩, -⟩; have H' := am H; clear H; have z54 := bc4 BK249.out; obtain ⟨Ao55, co55, eo55⟩ := Kd.R_slice HO1.out; subst eo55; go_wp2_with ((go_at_call 79; (with_reducible refine (spec_l06Args.calls k _ _ l0_2 _ _ l1 t253 _ ?side1 HC0_2.out ?side3 ?side4 A53.out).mono ?_); (case side1 => exact Kd.C_kept_now HR0_2.out HK.out); (case side3 => repeat ((exact (Kd.R_reads' HO1.out).2.2))); (case side4 => exact (Kd.R_reads' HO1.out).2.1); rintro e w56 ⟨rfl, hb⟩; replace HO1 := am (Kd.R_below HO1.out hb); replace BK249 := bb BK249 hb; replace HK := am (Kept.below (S := (fun k_ => P1_ k_)) HK.out hb); replace HB := am (below_step bw hb); (try clear hb))); go_meet
       case rel => exact ⟨_, (!t253), (by rfl), H', ⟨by omega⟩, HO1, BK249, HK, HB⟩
      ·(skip); have H' := am H; clear H; have z57 := bc4 BK249.out; go_wp2; go_meet
       case rel => exact ⟨_, (true), (by rfl), H', ⟨by omega⟩, HO1, BK249, HK, HB⟩
     case rest =>
      clear HC49; try clear c4
      try clear c17
      try clear c17b0
      try clear c17b1
      try clear c33
      try clear c33b0
      try clear c33b1
      try clear c48b0
      try clear c48b1
      try clear hcz51_0
      try clear hcz51_1
      try clear hcz51_2
      try clear hcz51_3
      try clear hfz51_0
      try clear hfz51_1
      try clear hfz51_2
      try clear hfz51_3
      obtain ⟨kq, x81_48, rfl, HA, HJ48, HO_1, BK249, HK, HB⟩ := hcut
      cases kq with
      | zero => exact absurd HA.out (by simp [spec_l06Sym.j0])
      | succ kj48 =>
       have H := HA.out; clear HA; simp only [spec_l06Sym.j0] at H; rcases cb H, H with ⟨⟨rfl, H⟩ | ⟨rfl, H⟩, -⟩
       ·obtain ⟨rfl, rfl⟩ := s2 H; go_wp2; go_ret2
        exact ⟨_, by rfl, by exact HO_1.out, HB.out, HK.out⟩
       ·rcases ce H, H with ⟨⟨-, c59b0, c59b1, H⟩ | ⟨c59, c59b0, c59b1, H⟩, -⟩
        ·obtain ⟨rfl, rfl⟩ := s2 H; have z60 := bc4 BK249.out; go_wp2; go_ret2
         exact ⟨_, by rfl, by exact HO_1.out, HB.out, HK.out⟩
        ·rcases ob H, H with ⟨⟨t254, A61, H⟩, -⟩; rcases ob H, H with ⟨⟨t257, A62, H⟩, -⟩; rcases cb H, H with ⟨⟨rfl, H⟩ | ⟨rfl, H⟩, -⟩
         ·rcases ob H, H with ⟨⟨t258, A64, H⟩, -⟩; rcases cb H, H with ⟨⟨rfl, H⟩ | ⟨rfl, H⟩, -⟩
          ·obtain ⟨rfl, rfl⟩ := s2 H; have z66 := bc4 BK249.out; obtain ⟨Ao67, co67, eo67⟩ := Kd.R_slice HO_1.out; subst eo67; go_wp2_with (first | ((with_reducible refine gc 65 ?_); refine gl_ 90 Try.func65 #[.slice Ao67 l1.length co67, .string a0_3] ?_; (with_reducible refine (spec_l03Put.calls kj48 _ _ l1 a0_3 t254 _ ?side1 ?side2 A61.out).mono ?_); (case side1 => repeat ((exact (Kd.R_reads' HO_1.out).2.2))); (case side2 => exact (Kd.R_reads' HO_1.out).2.1); rintro e w68 ⟨v255, rfl, ho0, hb⟩; refine ⟨_, rfl, ?_⟩; have HO256 := am (Kd.R_lower (Kd.R_new' (Kd.R_newM (M := fun k_ => (P1_ k_ ∨ w.heap.size ≤ k_)) ho0 (by exact HK.out.1) (fun k_ h_ => .inr h_)) (Kd.R_lt HO_1.out)) (below_size bw)); replace HO_1 := am (Kd.R_elder' HO_1.out (Kd.R_base ho0) hb); replace BK249 := bb BK249 hb; replace HK := am (Kept.below (S := (fun k_ => P1_ k_)) HK.out hb); replace HB := am (below_step bw hb); (try clear hb ho0); have z69 := bc4 BK249.out) | ((with_reducible refine gc 62 ?_); refine gl_ 94 Try.func62 #[.string a0_3] ?_; (with_reducible refine (spec_VarName.calls kj48 a0_3 true _ A62.out).mono ?_); rintro e w' ⟨rfl, ⟨nd, rfl⟩⟩; refine ⟨_, rfl, ?_⟩) | (go_at_call 80; (with_reducible refine (spec_l03In.calls kj48 _ _ l1 a0_3 true _ ?side1 ?side2 A64.out).mono ?_); (case side1 => repeat ((exact (Kd.R_reads' HO_1.out).2.2))); (case side2 => exact (Kd.R_reads' HO_1.out).2.1); rintro e w' ⟨rfl, ⟨nd, rfl⟩⟩)); go_ret2
           exact ⟨_, by rfl, by (with_reducible repeat (apply Kd.R_drewN)); exact Kd.R_mono HO256.out (fun _ hk => hk.1.1), bw, by repeat ((with_reducible first | exact HK.out | apply Kept.drewN))⟩
          ·obtain ⟨rfl, rfl⟩ := s2 H; have z70 := bc4 BK249.out; obtain ⟨Ao71, co71, eo71⟩ := Kd.R_slice HO_1.out; subst eo71; go_wp2_with (first | ((with_reducible refine gc 65 ?_); refine gl_ 90 Try.func65 #[.slice Ao71 l1.length co71, .string a0_3] ?_; (with_reducible refine (spec_l03Put.calls kj48 _ _ l1 a0_3 t254 _ ?side1 ?side2 A61.out).mono ?_); (case side1 => repeat ((exact (Kd.R_reads' HO_1.out).2.2))); (case side2 => exact (Kd.R_reads' HO_1.out).2.1); rintro e w72 ⟨v255, rfl, ho0, hb⟩; refine ⟨_, rfl, ?_⟩; have HO256 := am (Kd.R_lower (Kd.R_new' (Kd.R_newM (M := fun k_ => (P1_ k_ ∨ w.heap.size ≤ k_)) ho0 (by exact HK.out.1) (fun k_ h_ => .inr h_)) (Kd.R_lt HO_1.out)) (below_size bw)); replace HO_1 := am (Kd.R_elder' HO_1.out (Kd.R_base ho0) hb); replace BK249 := bb BK249 hb; replace HK := am (Kept.below (S := (fun k_ => P1_ k_)) HK.out hb); replace HB := am (below_step bw hb); (try clear hb ho0); have z73 := bc4 BK249.out) | ((with_reducible refine gc 62 ?_); refine gl_ 94 Try.func62 #[.string a0_3] ?_; (with_reducible refine (spec_VarName.calls kj48 a0_3 true _ A62.out).mono ?_); rintro e w' ⟨rfl, ⟨nd, rfl⟩⟩; refine ⟨_, rfl, ?_⟩) | (go_at_call 80; (with_reducible refine (spec_l03In.calls kj48 _ _ l1 a0_3 false _ ?side1 ?side2 A64.out).mono ?_); (case side1 => repeat ((exact (Kd.R_reads' HO_1.out).2.2))); (case side2 => exact (Kd.R_reads' HO_1.out).2.1); rintro e w' ⟨rfl, ⟨nd, rfl⟩⟩; obtain ⟨Ao74, co74, eo74⟩ := Kd.R_slice HO256.out; subst eo74)); go_ret2
           exact ⟨_, by rfl, by (with_reducible repeat (apply Kd.R_drewN)); exact Kd.R_mono HO256.out (fun _ hk => hk.1.1), bw, by repeat ((with_reducible first | exact HK.out | apply Kept.drewN))⟩
         ·obtain ⟨rfl, rfl⟩ := s2 H; have z75 := bc4 BK249.out; obtain ⟨Ao76, co76, eo76⟩ := Kd.R_slice HO_1.out; subst eo76; go_wp2_with (first | ((with_reducible refine gc 65 ?_); refine gl_ 90 Try.func65 #[.slice Ao76 l1.length co76, .string a0_3] ?_; (with_reducible refine (spec_l03Put.calls kj48 _ _ l1 a0_3 t254 _ ?side1 ?side2 A61.out).mono ?_); (case side1 => repeat ((exact (Kd.R_reads' HO_1.out).2.2))); (case side2 => exact (Kd.R_reads' HO_1.out).2.1); rintro e w77 ⟨v255, rfl, ho0, hb⟩; refine ⟨_, rfl, ?_⟩; have HO256 := am (Kd.R_lower (Kd.R_new' (Kd.R_newM (M := fun k_ => (P1_ k_ ∨ w.heap.size ≤ k_)) ho0 (by exact HK.out.1) (fun k_ h_ => .inr h_)) (Kd.R_lt HO_1.out)) (below_size bw)); replace HO_1 := am (Kd.R_elder' HO_1.out (Kd.R_base ho0) hb); replace BK249 := bb BK249 hb; replace HK := am (Kept.below (S := (fun k_ => P1_ k_)) HK.out hb); replace HB := am (below_step bw hb); (try clear hb ho0); have z78 := bc4 BK249.out) | ((with_reducible refine gc 62 ?_); refine gl_ 94 Try.func62 #[.string a0_3] ?_; (with_reducible refine (spec_VarName.calls kj48 a0_3 false _ A62.out).mono ?_); rintro e w' ⟨rfl, ⟨nd, rfl⟩⟩; refine ⟨_, rfl, ?_⟩)); go_ret2
          exact ⟨_, by rfl, by (with_reducible repeat (apply Kd.R_drewN)); exact Kd.R_mono HO256.out (fun _ hk => hk.1.1), bw, by repeat ((with_reducible first | exact HK.out | apply Kept.drewN))⟩
    ·obtain ⟨rfl, rfl⟩ := s2 H; go_enter Try.func73, Try.ntmps73; go_wp2_with (((with_reducible refine gd 3 ?_); refine bx_ #[.int .i64 a0_0, .string a0_1, .slice A0_2 l0_2.length c0_2, .string a0_3] 66 ?_; intro gb249 hg w79 hbox hb; have BK249 := am (hbox); have GW249 := am ((by rw [hg]; exact (by exact HK.out.1) : w.heap.size ≤ gb249)); have GE249 := am ((bz bw hg : w0.heap.size ≤ gb249)); replace HO1 := am (Kd.R_below HO1.out hb); replace HK := am (Kept.below (S := (fun k_ => P1_ k_)) HK.out hb); replace HB := am (below_step bw hb); clear hb hbox hg; have z80 := bc4 BK249.out)); go_ret2
     exact ⟨_, by rfl, by exact HO1.out, HB.out, HK.out⟩
def spec_l11Params.l0 : Nat → ByteArray → Int → List (S98) → List (S82) → Option (Int)
 | 0, _, _, _, _ => none
 | k + 1, x1, x5, x260000, x260001 => if x5 < (x260001.length : Int) then (if 0 ≤ x5 then (if ((rd_T82 x260001 x5).f0).toList = x1.toList then (some (((rd_T82 x260001 x5).f1).length : Int)) else (spec_l11Params.l0 k x1 (wrap64 (x5 + 1)) x260000 x260001)) else (none)) else (some (-1))
def spec_l11Params.f (k : Nat) (l0_0 : List (S98)) (l0_1 : List (S82)) (a1 : ByteArray) : Option (Int) := spec_l11Params.l0 k a1 0 l0_0 l0_1
theorem spec_l11Params.mono_l : ∀ k, (∀ y0 y1 y2 y3, LeO (spec_l11Params.l0 k y0 y1 y2 y3) (spec_l11Params.l0 (k + 1) y0 y1 y2 y3))
 | 0 => fun _ _ _ _ r h => by simp [spec_l11Params.l0] at h
 | k + 1 => by
  have ih0 := spec_l11Params.mono_l k
  ·intro y0 y1 y2 y3; unfold spec_l11Params.l0; repeat' with_reducible first | exact ih0 _ _ _ _ | exact LeO.refl _ | refine LeO.ite ?_ ?_
theorem spec_l11Params.mono : ∀ a0 a1 a2 k, LeO (spec_l11Params.f k a0 a1 a2) (spec_l11Params.f (k + 1) a0 a1 a2) := by
 intro a0 a1 a2 k; have ih0 := spec_l11Params.mono_l k; unfold spec_l11Params.f; repeat' (with_reducible exact ih0 _ _ _ _)
theorem spec_l11Params.calls (k : Nat) (A0_0 : Option Addr) (c0_0 : Nat) (l0_0 : List (S98)) (A0_1 : Option Addr) (c0_1 : Nat) (l0_1 : List (S82)) (a1 : ByteArray) (r : Int) (w : World) (hr0_0 : Kd.C k98 w A0_0 l0_0.length l0_0) (hc0_0 : l0_0.length ≤ c0_0) (hr0_1 : Kd.C k82 w A0_1 l0_1.length l0_1) (hc0_1 : l0_1.length ≤ c0_1) (h : spec_l11Params.f k l0_0 l0_1 a1 = some r) :
  Calls Try.prog 74 #[.agg #[.slice A0_0 l0_0.length c0_0, .slice A0_1 l0_1.length c0_1], .string a1] w fun e w' => e = .returned (.int .i64 r) ∧ Below w.heap.size w w' := by
 have hu53 := Try.underlying53; have HR0_0 := am hr0_0; have HC0_0 := am hc0_0; clear hr0_0 hc0_0; have HR0_1 := am hr0_1; have HC0_1 := am hc0_1; clear hr0_1 hc0_1; have HB := am (Below.refl w.heap.size w); have H : (spec_l11Params.l0 k a1 0 l0_0 l0_1) = some r := h; clear h; have H' := am H; clear H; go_enter Try.func74, Try.ntmps74; go_wp2_with (((with_reducible refine gd 2 ?_); refine bo_ #[.slice A0_0 l0_0.length c0_0, .slice A0_1 l0_1.length c0_1] 53 (w := w) ?_; clear HB; intro gb259 hg w3 hb BK259 GE259 HB; clear hb hg)); go_loopg [5] k (fun kq v5 w' => ∃ (x5_1 : Int), v5 = .int .i64 x5_1 ∧ Aside0 (spec_l11Params.l0 kq a1 x5_1 l0_0 l0_1 = some r) ∧ Aside0 (kq ≤ k) ∧ Aside0 (w'.heap[gb259]? = some (.cells #[(.slice A0_0 l0_0.length c0_0), (.slice A0_1 l0_1.length c0_1)] 53 (0, 0))) ∧ Aside0 (Below w.heap.size w w'))
 case atStart => exact ⟨(0), (by rfl), H', ⟨Nat.le_refl _⟩, BK259, HB⟩
 case round =>
  clear H'; obtain ⟨x5_1, rfl, HA, HK1, BK259, HB⟩ := hrel
  cases gk with
  | zero => exact absurd HA.out (by simp [spec_l11Params.l0])
  | succ k1 =>
   have H := HA.out; clear HA; simp only [spec_l11Params.l0] at H; rcases cd H, H with ⟨⟨c4b0, H⟩ | ⟨c4b0, H⟩, -⟩
   ·rcases cn H, H with ⟨⟨c5b0, H⟩, -⟩; rcases ce H, H with ⟨⟨-, c6b0, c6b1, H⟩ | ⟨c6, c6b0, c6b1, H⟩, -⟩
    ·obtain rfl := si H; have z7 := bc2 BK259.out; obtain ⟨p260, q260, ad260, A260_1, c260_1, e260, hx260_0, hx260_1, hx260_2, HC260_1, HR260_1⟩ := aw_T82 HB HR0_1 x5_1 oa oa; cases e260; obtain ⟨p261, q261, ad261, A261_1, c261_1, e261, hx261_0, hx261_1, hx261_2, HC261_1, HR261_1⟩ := aw_T82 HB HR0_1 x5_1 oa oa; obtain rfl : ad260 = ad261 := (by injection e261); have ea_ := Option.some.inj (hx260_1.symm.trans hx261_1); injection ea_ with ea_ en_ ec_
     subst ea_; subst ec_; clear en_; go_wp2; go_ret; exact ⟨by rfl, HB.out⟩
    ·have H' := am H; clear H; have z8 := bc2 BK259.out; obtain ⟨p260, q260, ad260, A260_1, c260_1, e260, hx260_0, hx260_1, hx260_2, HC260_1, HR260_1⟩ := aw_T82 HB HR0_1 x5_1 oa oa; cases e260; go_wp2; go_roundg k1
     case measure => have := HK1.out; omega
     case rel => exact ⟨(wrap64 (x5_1 + 1)), (by rfl), H', ⟨by have := HK1.out; omega⟩, BK259, HB⟩
   ·obtain rfl := si H; have z9 := bc2 BK259.out; go_wp2; go_ret; exact ⟨by rfl, HB.out⟩
set_option maxHeartbeats 16000000 in
theorem l06SymR_calls (k : Nat) (a0 : Int) (a1 : ByteArray) (A2 : Option Addr) (c2 : Nat) (l2 : List S69) (a3 : ByteArray) (A4 : Option Addr) (c4 : Nat) (l4 : List ByteArray) (a5 : Int) (r1 : List ByteArray) (r2 : Bool) (w : World) (hr2 : Kd.C k69 w A2 l2.length l2) (hc2 : l2.length ≤ c2) (hr4 : Kd.C Kd.string w A4 l4.length l4) (hc4 : l4.length ≤ c4) (h : spec_l06Sym.f k a0 a1 l2 a3 l4 a5 = some (r1, r2)) :
  Calls Try.prog 73 #[.agg #[.int .i64 a0, .string a1, .slice A2 l2.length c2, .string a3], .slice A4 l4.length c4, .int .i64 a5] w fun e w' => ∃ A c, e = .returned (.tuple #[.slice A r1.length c, .bool r2]) ∧ r1.length ≤ c ∧ Kd.C Kd.string w' A r1.length r1 ∧ Below w.heap.size w w' := by
 unfold spec_l06Sym.f at h; have HH := am h; have HC4 := am hc4; have HC2 := am hc2; clear h hc4 hc2; go_enter Try.func73, Try.ntmps73; go_upto_region 1 with fail; have hX : (w.alloc (.cells #[.int .i64 a0, .string a1, .slice A2 l2.length c2, .string a3] 66)).heap[w.heap.size]? = some (.cells #[.int .i64 a0, .string a1, .slice A2 l2.length c2, .string a3] 66 (0, 0)) := by simpa using heap_alloc_new w (.cells #[.int .i64 a0, .string a1, .slice A2 l2.length c2, .string a3] 66)
 have hB : Below w.heap.size w (w.alloc (.cells #[.int .i64 a0, .string a1, .slice A2 l2.length c2, .string a3] 66)) := below_alloc (Below.refl _ _) _; have HR2 := am (Kd.C_below hr2 hB); have HR4 := am (Kd.C_below hr4 hB); have HX := am hX; have HB := am hB; clear hX hB hr2 hr4; obtain ⟨gx, hz⟩ : ∃ gx, w.heap.size = gx := ⟨_, rfl⟩; rw [hz] at HX ⊢; generalize w.alloc (.cells #[.int .i64 a0, .string a1, .slice A2 l2.length c2, .string a3] 66) = w1 at HR2 HR4 HX HB ⊢; have hx0 : w1.cell? ⟨gx, 0, none⟩ = some (.int .i64 a0) := (blk_cell HX.out 0).trans rfl; have hx1 : w1.cell? ⟨gx, 1, none⟩ = some (.string a1) := (blk_cell HX.out 1).trans rfl; have hx2 : w1.cell? ⟨gx, 2, none⟩ = some (.slice A2 l2.length c2) := (blk_cell HX.out 2).trans rfl; have hx3 : w1.cell? ⟨gx, 3, none⟩ = some (.string a3) := (blk_cell HX.out 3).trans rfl
 have HK := am (show ∀ w', Below w1.heap.size w1 w' → (w'.cell? ⟨gx, 0, none⟩ = some (.int .i64 a0) ∧ w'.cell? ⟨gx, 1, none⟩ = some (.string a1) ∧ w'.cell? ⟨gx, 2, none⟩ = some (.slice A2 l2.length c2) ∧ w'.cell? ⟨gx, 3, none⟩ = some (.string a3)) ∧ Kd.C k69 w' A2 l2.length l2 ∧ Kd.C Kd.string w' A4 l4.length l4 ∧ Below w.heap.size w w' from fun w' hb => by
  have hx := (hb.block gx (blk_lt HX.out)).trans HX.out
  exact ⟨⟨(blk_cell hx 0).trans rfl, (blk_cell hx 1).trans rfl, (blk_cell hx 2).trans rfl, (blk_cell hx 3).trans rfl⟩, Kd.C_below HR2.out hb, Kd.C_below HR4.out hb, HB.out.trans (hb.mono HB.out.size)⟩)
 have HZ := am hz; clear HX hz; have H := HH.out; clear HH; by_cases c1 : a0 = 1
 ·rw [if_pos c1] at H; subst c1; obtain ⟨t, h1, H⟩ := Option.bind_eq_some_iff.mp H; have H1 := am h1; clear h1
  have hr : r1 = l4 ∧ r2 = (t && (decide ((l2.length : Int) = 0) && (a3.toList == []))) := by
   cases t
   ·rw [if_neg (by decide)] at H; have := Option.some.inj H; simp only [Prod.mk.injEq] at this; exact ⟨this.1.symm, by simp [← this.2]⟩
   ·rw [if_pos rfl] at H; by_cases c : (l2.length : Int) = 0
    ·rw [if_pos c] at H; have := Option.some.inj H; simp only [Prod.mk.injEq] at this; exact ⟨this.1.symm, by rw [← this.2, decide_eq_true c]; rfl⟩
    ·rw [if_neg c] at H; have := Option.some.inj H; simp only [Prod.mk.injEq] at this; exact ⟨this.1.symm, by rw [← this.2, decide_eq_false c]; rfl⟩
  obtain ⟨rfl, rfl⟩ := hr; clear H; go_upto_region 3 with fail; cases t
  ·go_quiet ((go_at_call 78; (with_reducible refine (spec_l06Text.calls k _ _ _ H1.out).mono ?_); rintro e w' ⟨rfl, ⟨nd, rfl⟩⟩; (try (exact ⟨rfl, _, World.drewN_drewN _ _ _⟩))))
   all_goals (
    go_wp2; go_ret2
    exact ⟨A4, c4, rfl, HC4.out, (HK.out _ (by (exact pw_below_drewN (Below.refl _ _) _))).2.2.1, (HK.out _ (by (exact pw_below_drewN (Below.refl _ _) _))).2.2.2⟩)
  ·by_cases cl : (l2.length : Int) = 0
   ·have hl0 : ((l2.length : Int) == 0) = true := beq_iff_eq.2 cl; have hcl := decide_eq_true cl; go_quiet ((go_at_call 78; (with_reducible refine (spec_l06Text.calls k _ _ _ H1.out).mono ?_); rintro e w' ⟨rfl, ⟨nd, rfl⟩⟩; (try (exact ⟨rfl, _, World.drewN_drewN _ _ _⟩))))
    all_goals (
     go_wp2; go_ret2
     exact ⟨A4, c4, by rw [hcl]; (simp; done), HC4.out, (HK.out _ (by (exact pw_below_drewN (Below.refl _ _) _))).2.2.1, (HK.out _ (by (exact pw_below_drewN (Below.refl _ _) _))).2.2.2⟩)
   ·have hl0 : ((l2.length : Int) == 0) = false := beq_eq_false_iff_ne.2 cl; have hcl := decide_eq_false cl; go_quiet ((go_at_call 78; (with_reducible refine (spec_l06Text.calls k _ _ _ H1.out).mono ?_); rintro e w' ⟨rfl, ⟨nd, rfl⟩⟩; (try (exact ⟨rfl, _, World.drewN_drewN _ _ _⟩))))
    all_goals (
     go_wp2; go_ret2
     exact ⟨A4, c4, by rw [hcl]; rfl, HC4.out, (HK.out _ (by (exact pw_below_drewN (Below.refl _ _) _))).2.2.1, (HK.out _ (by (exact pw_below_drewN (Below.refl _ _) _))).2.2.2⟩)
 rw [if_neg c1] at H; have c1b : (a0 == 1) = false := beq_eq_false_iff_ne.2 c1; by_cases c2 : a0 = 2
 ·rw [if_pos c2] at H; subst c2; obtain ⟨t, h1, H⟩ := Option.bind_eq_some_iff.mp H; have H1 := am h1; clear h1 c1 c1b
  have hr : r1 = l4 ∧ r2 = (t && (decide ((l2.length : Int) = 0) && (a3.toList == []))) := by
   cases t
   ·rw [if_neg (by decide)] at H; have := Option.some.inj H; simp only [Prod.mk.injEq] at this; exact ⟨this.1.symm, by simp [← this.2]⟩
   ·rw [if_pos rfl] at H; by_cases c : (l2.length : Int) = 0
    ·rw [if_pos c] at H; have := Option.some.inj H; simp only [Prod.mk.injEq] at this; exact ⟨this.1.symm, by rw [← this.2, decide_eq_true c]; rfl⟩
    ·rw [if_neg c] at H; have := Option.some.inj H; simp only [Prod.mk.injEq] at this; exact ⟨this.1.symm, by rw [← this.2, decide_eq_false c]; rfl⟩
  obtain ⟨rfl, rfl⟩ := hr; clear H; go_upto_region 5 with fail; cases t
  ·skip
   refine start_ (n := 17) (S := fun w' => w'.cell? ⟨gx, 0, none⟩ = some (.int .i64 2) ∧ w'.cell? ⟨gx, 1, none⟩ = some (.string a1) ∧ w'.cell? ⟨gx, 2, none⟩ = some (.slice A2 l2.length c2) ∧ w'.cell? ⟨gx, 3, none⟩ = some (.string a3)) (ds := []) (bmk 17 0) (by kernel_rfl) rfl rfl (HK.out w1.drew (below_drew (Below.refl _ _))).1 (fun hHeld => ?_); refine with_tabW spec_l06Sym.tab5 spec_l06Sym.bits5 (fun HT_ HW_ => ?_); have HB1 := am (show Below w1.heap.size w1 w1.drew from below_drew (Below.refl _ _)); generalize w1.drew = w31 at HB1 hHeld ⊢; refine py_ 0 (some 30) (bmk 17 1) HT_ ?_; refine py_ 1 (some 31) (bmk 17 3) HT_ ?_; refine tk_ 2 (some 32) (bmk 17 7) HT_ HW_ hHeld ?_; refine on_ 3 (some 33) (bmk 17 15) HT_ (fun K hK => ?_); refine gs_ Try.func59 #[.string a1] ?_; with_reducible refine (spec_SetOk.calls k a1 false _ H1.out).mono ?_
   rintro e w32 ⟨rfl, hb⟩; refine ⟨_, rfl, ?_⟩; have HB2 := am (HB1.out.trans (hb.mono HB1.out.size)); clear hb; refine hK.out _ _ (HK.out w32 HB2.out).1 (fun hHeld => ?_); clear hK K; refine nn_ (some 33) ?_; refine py_ 4 (some 34) (bmk 17 31) HT_ ?_; refine un_ 5 (some 35) (bmk 17 63) HT_ ?_; refine un_ 6 (some 36) (bmk 17 127) HT_ ?_; refine un_ 7 (some 37) (bmk 17 255) HT_ ?_; refine un_ 8 (some 38) (bmk 17 511) HT_ ?_; refine py_ 9 (some 39) (bmk 17 1023) HT_ ?_; refine py_ 10 (some 40) (bmk 17 2047) HT_ ?_; refine un_ 11 (some 41) (bmk 17 4095) HT_ ?_; refine un_ 12 (some 42) (bmk 17 8191) HT_ ?_; refine un_ 13 (some 43) (bmk 17 16383) HT_ ?_; refine py_ 14 (some 44) (bmk 17 32767) HT_ ?_; refine py_ 15 (some 6) (bmk 17 65535) HT_ ?_; refine py_ 16 (some 7) (bmk 17 131071) HT_ ?_; refine done_ (done_of HT_.out (by kernel_rfl)) ?_; try go_wp2
   go_ret2
   exact ⟨A4, c4, rfl, HC4.out, (HK.out _ HB2.out).2.2.1, (HK.out _ HB2.out).2.2.2⟩
  ·by_cases cl : (l2.length : Int) = 0
   ·have hl0 : ((l2.length : Int) == 0) = true := beq_iff_eq.2 cl; have hcl := decide_eq_true cl; refine start_ (n := 17) (S := fun w' => w'.cell? ⟨gx, 0, none⟩ = some (.int .i64 2) ∧ w'.cell? ⟨gx, 1, none⟩ = some (.string a1) ∧ w'.cell? ⟨gx, 2, none⟩ = some (.slice A2 l2.length c2) ∧ w'.cell? ⟨gx, 3, none⟩ = some (.string a3)) (ds := []) (bmk 17 0) (by kernel_rfl) rfl rfl (HK.out w1.drew (below_drew (Below.refl _ _))).1 (fun hHeld => ?_); refine with_tabW spec_l06Sym.tab5 spec_l06Sym.bits5 (fun HT_ HW_ => ?_); have HB1 := am (show Below w1.heap.size w1 w1.drew from below_drew (Below.refl _ _)); generalize w1.drew = w31 at HB1 hHeld ⊢; refine py_ 0 (some 30) (bmk 17 1) HT_ ?_; refine py_ 1 (some 31) (bmk 17 3) HT_ ?_; refine tk_ 2 (some 32) (bmk 17 7) HT_ HW_ hHeld ?_; refine on_ 3 (some 33) (bmk 17 15) HT_ (fun K hK => ?_); refine gs_ Try.func59 #[.string a1] ?_; with_reducible refine (spec_SetOk.calls k a1 true _ H1.out).mono ?_
    rintro e w32 ⟨rfl, hb⟩; refine ⟨_, rfl, ?_⟩; have HB2 := am (HB1.out.trans (hb.mono HB1.out.size)); clear hb; refine hK.out _ _ (HK.out w32 HB2.out).1 (fun hHeld => ?_); clear hK K; refine nn_ (some 33) ?_; refine py_ 4 (some 34) (bmk 17 31) HT_ ?_; refine py_ 5 (some 35) (bmk 17 63) HT_ ?_; refine tk_ 6 (some 36) (bmk 17 127) HT_ HW_ hHeld ?_; refine py_ 7 (some 37) (bmk 17 255) HT_ ?_; refine py_ 8 (some 38) (bmk 17 511) HT_ ?_; refine py_ 9 (some 39) (bmk 17 1023) HT_ ?_; refine py_ 10 (some 40) (bmk 17 2047) HT_ ?_; refine py_ 11 (some 41) (bmk 17 4095) HT_ ?_; refine py_ 15 (some 6) (bmk 17 36863) HT_ ?_; refine tk_ 12 (some 42) (bmk 17 40959) HT_ HW_ hHeld ?_; refine py_ 13 (some 43) (bmk 17 49151) HT_ ?_; refine py_ 14 (some 44) (bmk 17 65535) HT_ ?_; refine py_ 16 (some 7) (bmk 17 131071) HT_ ?_; refine done_ (done_of HT_.out (by kernel_rfl)) ?_; try go_wp2
    go_ret2
    exact ⟨A4, c4, by rw [hcl]; (simp; done), HC4.out, (HK.out _ HB2.out).2.2.1, (HK.out _ HB2.out).2.2.2⟩
   ·have hl0 : ((l2.length : Int) == 0) = false := beq_eq_false_iff_ne.2 cl; have hcl := decide_eq_false cl; refine start_ (n := 17) (S := fun w' => w'.cell? ⟨gx, 0, none⟩ = some (.int .i64 2) ∧ w'.cell? ⟨gx, 1, none⟩ = some (.string a1) ∧ w'.cell? ⟨gx, 2, none⟩ = some (.slice A2 l2.length c2) ∧ w'.cell? ⟨gx, 3, none⟩ = some (.string a3)) (ds := []) (bmk 17 0) (by kernel_rfl) rfl rfl (HK.out w1.drew (below_drew (Below.refl _ _))).1 (fun hHeld => ?_); refine with_tabW spec_l06Sym.tab5 spec_l06Sym.bits5 (fun HT_ HW_ => ?_); have HB1 := am (show Below w1.heap.size w1 w1.drew from below_drew (Below.refl _ _)); generalize w1.drew = w31 at HB1 hHeld ⊢; refine py_ 0 (some 30) (bmk 17 1) HT_ ?_; refine py_ 1 (some 31) (bmk 17 3) HT_ ?_; refine tk_ 2 (some 32) (bmk 17 7) HT_ HW_ hHeld ?_; refine on_ 3 (some 33) (bmk 17 15) HT_ (fun K hK => ?_); refine gs_ Try.func59 #[.string a1] ?_; with_reducible refine (spec_SetOk.calls k a1 true _ H1.out).mono ?_
    rintro e w32 ⟨rfl, hb⟩; refine ⟨_, rfl, ?_⟩; have HB2 := am (HB1.out.trans (hb.mono HB1.out.size)); clear hb; refine hK.out _ _ (HK.out w32 HB2.out).1 (fun hHeld => ?_); clear hK K; refine nn_ (some 33) ?_; refine py_ 4 (some 34) (bmk 17 31) HT_ ?_; refine py_ 5 (some 35) (bmk 17 63) HT_ ?_; refine tk_ 6 (some 36) (bmk 17 127) HT_ HW_ hHeld ?_; refine py_ 7 (some 37) (bmk 17 255) HT_ ?_; refine py_ 8 (some 38) (bmk 17 511) HT_ ?_; refine py_ 9 (some 39) (bmk 17 1023) HT_ ?_; refine py_ 10 (some 40) (bmk 17 2047) HT_ ?_; refine un_ 11 (some 41) (bmk 17 4095) HT_ ?_; refine un_ 12 (some 42) (bmk 17 8191) HT_ ?_; refine un_ 13 (some 43) (bmk 17 16383) HT_ ?_; refine py_ 14 (some 44) (bmk 17 32767) HT_ ?_; refine py_ 15 (some 6) (bmk 17 65535) HT_ ?_; refine py_ 16 (some 7) (bmk 17 131071) HT_ ?_; refine done_ (done_of HT_.out (by kernel_rfl)) ?_; try go_wp2
    go_ret2
    exact ⟨A4, c4, by rw [hcl]; rfl, HC4.out, (HK.out _ HB2.out).2.2.1, (HK.out _ HB2.out).2.2.2⟩
 rw [if_neg c2] at H; have c2b : (a0 == 2) = false := beq_eq_false_iff_ne.2 c2; by_cases c4 : a0 = 4
 ·rw [if_pos c4] at H; subst c4; clear c1 c1b c2 c2b; by_cases d1 : a1.toList = ([] : List UInt8)
  ·rw [if_pos d1] at H; have d1b : (a1.toList == ([] : List UInt8)) = true := beq_iff_eq.2 d1; by_cases d3 : a3.toList = ([] : List UInt8)
   ·rw [if_pos d3] at H; have d3b : (a3.toList == ([] : List UInt8)) = true := beq_iff_eq.2 d3; by_cases cl : (l2.length : Int) = 1
    ·rw [if_pos cl] at H; have hl1 : ((l2.length : Int) == 1) = true := beq_iff_eq.2 cl; obtain ⟨t, h1, H⟩ := Option.bind_eq_some_iff.mp H; have H1 := am h1; have H := Option.some.inj H; simp only [Prod.mk.injEq] at H; obtain ⟨rfl, rfl⟩ := H; clear h1 cl d3 d1; go_wp2_with (go_at_call 79; refine (spec_l06Args.calls k A2 c2 l2 A4 c4 _ _ _ HR2.out HC2.out HR4.out HC4.out H1.out).mono ?_; rintro e w2 ⟨rfl, hb2⟩; have HB2 := am hb2; clear hb2); go_ret2
     exact ⟨A4, c4, rfl, HC4.out, (HK.out _ HB2.out).2.2.1, (HK.out _ HB2.out).2.2.2⟩
    ·rw [if_neg cl] at H; have hl1 : ((l2.length : Int) == 1) = false := beq_eq_false_iff_ne.2 cl; have H := Option.some.inj H; simp only [Prod.mk.injEq] at H; obtain ⟨rfl, rfl⟩ := H; clear cl d3 d1; go_wp2; go_ret2
     exact ⟨A4, c4, rfl, HC4.out, (HK.out _ (Below.refl _ _)).2.2.1, (HK.out _ (Below.refl _ _)).2.2.2⟩
   ·rw [if_neg d3] at H; have d3b : (a3.toList == ([] : List UInt8)) = false := beq_eq_false_iff_ne.2 d3; have H := Option.some.inj H; simp only [Prod.mk.injEq] at H; obtain ⟨rfl, rfl⟩ := H; clear d3 d1; go_wp2; go_ret2
    exact ⟨A4, c4, rfl, HC4.out, (HK.out _ (Below.refl _ _)).2.2.1, (HK.out _ (Below.refl _ _)).2.2.2⟩
  ·rw [if_neg d1] at H; have d1b : (a1.toList == ([] : List UInt8)) = false := beq_eq_false_iff_ne.2 d1; have H := Option.some.inj H; simp only [Prod.mk.injEq] at H; obtain ⟨rfl, rfl⟩ := H; clear d1; go_wp2; go_ret2
   exact ⟨A4, c4, rfl, HC4.out, (HK.out _ (Below.refl _ _)).2.2.1, (HK.out _ (Below.refl _ _)).2.2.2⟩
 rw [if_neg c4] at H; have c4b : (a0 == 4) = false := beq_eq_false_iff_ne.2 c4; by_cases c3 : a0 = 3
 ·rw [if_pos c3] at H; subst c3; clear c1 c1b c2 c2b c4 c4b; by_cases cl : (l2.length : Int) = a5
  ·rw [if_pos cl] at H; subst cl; have hl1 : ((l2.length : Int) != (l2.length : Int)) = false := by simp
   obtain ⟨t, h1, H⟩ := Option.bind_eq_some_iff.mp H; have H1 := am h1; clear h1
   cases k with
   | zero => exact absurd H (by simp [spec_l06Sym.j0])
   | succ k =>
   simp only [spec_l06Sym.j0] at H
   cases t with
   | false =>
    rw [if_pos (by rfl)] at H; have H := Option.some.inj H; simp only [Prod.mk.injEq] at H; obtain ⟨rfl, rfl⟩ := H; go_wp2_with (go_at_call 79; refine (spec_l06Args.calls (k + 1) A2 c2 l2 A4 c4 _ _ _ HR2.out HC2.out HR4.out HC4.out H1.out).mono ?_; rintro e w2 ⟨rfl, hb2⟩; have HB2 := am hb2; clear hb2); go_ret2
    exact ⟨A4, c4, rfl, HC4.out, (HK.out _ HB2.out).2.2.1, (HK.out _ HB2.out).2.2.2⟩
   | true =>
    rw [if_neg (by decide)] at H; by_cases d3 : a3.toList = ([] : List UInt8)
    ·rw [if_pos d3] at H; have d3b : (a3.toList == ([] : List UInt8)) = true := beq_iff_eq.2 d3; have H := Option.some.inj H; simp only [Prod.mk.injEq] at H; obtain ⟨rfl, rfl⟩ := H; clear d3; go_wp2_with (go_at_call 79; refine (spec_l06Args.calls (k + 1) A2 c2 l2 A4 c4 _ _ _ HR2.out HC2.out HR4.out HC4.out H1.out).mono ?_; rintro e w2 ⟨rfl, hb2⟩; have HB2 := am hb2; obtain ⟨⟨hy0, hy1, hy2, hy3⟩, hyr, hyk, hyb⟩ := HK.out w2 hb2; clear hb2 hyr hyk hyb); go_ret2
     exact ⟨A4, c4, rfl, HC4.out, (HK.out _ HB2.out).2.2.1, (HK.out _ HB2.out).2.2.2⟩
    ·rw [if_neg d3] at H; have d3b : (a3.toList == ([] : List UInt8)) = false := beq_eq_false_iff_ne.2 d3; clear d3; obtain ⟨m, h2, H⟩ := Option.bind_eq_some_iff.mp H; obtain ⟨vn, h3, H⟩ := Option.bind_eq_some_iff.mp H; have H2 := am h2; have H3 := am h3; clear h2 h3
     go_upto_region 14 with (first
      | (go_at_call 79; refine (spec_l06Args.calls (k + 1) A2 c2 l2 A4 c4 _ _ _ HR2.out HC2.out HR4.out HC4.out H1.out).mono ?_; rintro e w2 ⟨rfl, hb2⟩; have HB2 := am hb2; obtain ⟨⟨hy0, hy1, hy2, hy3⟩, hyr, hyk, hyb⟩ := HK.out w2 hb2; have HY2 := am hyk; clear hb2 hyr hyk hyb)
      | (go_at_call 65; refine (spec_l03Put.calls k A4 c4 l4 a3 m _ HY2.out HC4.out H2.out).mono ?_; rintro e w3 ⟨vm, rfl, hm, hb3⟩; have HB3 := am (HB2.out.trans (hb3.mono HB2.out.size)); have HM := am hm; obtain ⟨⟨hu0, hu1, hu2, hu3⟩, hur, huk, hub⟩ := HK.out w3 (HB2.out.trans (hb3.mono HB2.out.size)); have HU2 := am huk; clear hb3 hur huk hub hm))
     obtain ⟨Am, cm, em⟩ := Kd.R_slice HM.out; subst em; have hcm : Kd.C Kd.string w3 Am m.length m ∧ m.length ≤ cm := ⟨(Kd.R_reads' HM.out).2.2, (Kd.R_reads' HM.out).2.1⟩; have HCM := am hcm; clear hcm
     cases vn with
     | false =>
      rw [if_neg (by decide)] at H; have H := Option.some.inj H; simp only [Prod.mk.injEq] at H; obtain ⟨rfl, rfl⟩ := H; go_wp2_with (go_at_call 62; refine (spec_VarName.calls k _ _ _ H3.out).mono ?_; rintro e w4 ⟨rfl, n4, rfl⟩); go_ret2
      exact ⟨Am, cm, rfl, HCM.out.2, Kd.C_below HCM.out.1 (pw_below_drewN (Below.refl _ _) _), (HK.out _ (pw_below_drewN HB3.out _)).2.2.2⟩
     | true =>
      rw [if_pos rfl] at H; obtain ⟨ki, h4, H⟩ := Option.bind_eq_some_iff.mp H; have H4 := am h4; clear h4
      cases ki with
      | true =>
       rw [if_pos rfl] at H; have H := Option.some.inj H; simp only [Prod.mk.injEq] at H; obtain ⟨rfl, rfl⟩ := H
       go_wp2_with (first
        | (go_at_call 62; refine (spec_VarName.calls k _ _ _ H3.out).mono ?_; rintro e w4 ⟨rfl, n4, rfl⟩)
        | (go_at_call 80; refine (spec_l03In.calls k A4 c4 l4 a3 _ _ (Kd.C_below HU2.out (pw_below_drewN (Below.refl _ _) _)) HC4.out H4.out).mono ?_; rintro e w5 ⟨rfl, n5, rfl⟩))
       go_ret2
       exact ⟨Am, cm, rfl, HCM.out.2, Kd.C_drewN HCM.out.1 (n4 + n5), (HK.out (w3.drewN (n4 + n5)) (pw_below_drewN HB3.out (n4 + n5))).2.2.2⟩
      | false =>
       rw [if_neg (by decide)] at H; have H := Option.some.inj H; simp only [Prod.mk.injEq] at H; obtain ⟨rfl, rfl⟩ := H
       go_wp2_with (first
        | (go_at_call 62; refine (spec_VarName.calls k _ _ _ H3.out).mono ?_; rintro e w4 ⟨rfl, n4, rfl⟩)
        | (go_at_call 80; refine (spec_l03In.calls k A4 c4 l4 a3 _ _ (Kd.C_below HU2.out (pw_below_drewN (Below.refl _ _) _)) HC4.out H4.out).mono ?_; rintro e w5 ⟨rfl, n5, rfl⟩))
       go_ret2
       exact ⟨Am, cm, rfl, HCM.out.2, Kd.C_drewN HCM.out.1 (n4 + n5), (HK.out (w3.drewN (n4 + n5)) (pw_below_drewN HB3.out (n4 + n5))).2.2.2⟩
  ·rw [if_neg cl] at H; have hl1 : ((l2.length : Int) != a5) = true := bne_iff_ne.2 cl
   cases k with
   | zero => exact absurd H (by simp [spec_l06Sym.j0])
   | succ k =>
   simp only [spec_l06Sym.j0] at H; (try rw [if_pos rfl] at H); have H := Option.some.inj H; simp only [Prod.mk.injEq] at H; obtain ⟨rfl, rfl⟩ := H; clear cl; go_wp2; go_ret2
   exact ⟨A4, c4, rfl, HC4.out, (HK.out _ (Below.refl _ _)).2.2.1, (HK.out _ (Below.refl _ _)).2.2.2⟩
 rw [if_neg c3] at H; have c3b : (a0 == 3) = false := beq_eq_false_iff_ne.2 c3; have H := Option.some.inj H; simp only [Prod.mk.injEq] at H; obtain ⟨rfl, rfl⟩ := H; clear c1 c2 c3 c4; go_wp2; go_ret2
 exact ⟨A4, c4, rfl, HC4.out, (HK.out _ (Below.refl _ _)).2.2.1, (HK.out _ (Below.refl _ _)).2.2.2⟩
mutual
def spec_l11Row.f : Nat → List S98 → List S82 → Int → List ByteArray → Option Bool
 | 0, _, _, _, _ => none
 | k + 1, nodes, sr, row, known => if 0 ≤ row then (if row < (nodes.length : Int) then spec_l11Row.l0 k nodes sr (rd_T98 nodes row).f4 known 0 else none) else none
def spec_l11Row.l0 : Nat → List S98 → List S82 → List Int → List ByteArray → Int → Option Bool
 | 0, _, _, _, _, _ => none
 | k + 1, nodes, sr, kids, known, i => if i < (kids.length : Int) then (if 0 ≤ i then (if 0 ≤ rd kids i then (if rd kids i < (nodes.length : Int) then
   (if (rd_T98 nodes (rd kids i)).f0 ≤ 4 then ((spec_l11Params.f k nodes sr (rd_T98 nodes (rd kids i)).f1).bind fun pa => (spec_l06Sym.f k (rd_T98 nodes (rd kids i)).f0 (rd_T98 nodes (rd kids i)).f1 (rd_T98 nodes (rd kids i)).f2 (rd_T98 nodes (rd kids i)).f3 known pa).bind fun m => (if m.2 = true then spec_l11Row.l0 k nodes sr kids m.1 (wrap64 (i + 1)) else some false))
    else ((spec_l11Group.f nodes sr (rd kids i)).bind fun g => (spec_l11Alt.f k nodes sr g known).bind fun b => (if b = true then spec_l11Row.l0 k nodes sr kids known (wrap64 (i + 1)) else some false))) else none) else none) else none) else some true
def spec_l11Alt.f : Nat → List S98 → List S82 → Int → List ByteArray → Option Bool
 | 0, _, _, _, _ => none
 | k + 1, nodes, sr, alt, known => if 0 ≤ alt then (if alt < (nodes.length : Int) then spec_l11Alt.l0 k nodes sr alt known 0 else none) else none
def spec_l11Alt.l0 : Nat → List S98 → List S82 → Int → List ByteArray → Int → Option Bool
 | 0, _, _, _, _, _ => none
 | k + 1, nodes, sr, alt, known, i => if i < ((rd_T98 nodes alt).f4.length : Int) then (if 0 ≤ i then ((spec_l11Row.f k nodes sr (rd (rd_T98 nodes alt).f4 i) known).bind fun b => (if b = true then spec_l11Alt.l0 k nodes sr alt known (wrap64 (i + 1)) else some false)) else none) else some true
end
def ConK (n : Nat) (F : List S98 → List S82 → Int → List ByteArray → Option Bool) : Prop :=
 ∀ (A0 : Option Addr) (c0 : Nat) (nodes : List S98) (A1 : Option Addr) (c1 : Nat) (sr : List S82) (row : Int) (A2 : Option Addr) (c2 : Nat) (known : List ByteArray) (r : Bool) (w : World) (h0 : Kd.C k98 w A0 nodes.length nodes) (hc0 : nodes.length ≤ c0) (h1 : Kd.C k82 w A1 sr.length sr) (hc1 : sr.length ≤ c1) (h2 : Kd.C Kd.string w A2 known.length known) (hc2 : known.length ≤ c2), F nodes sr row known = some r →
  Calls Try.prog n #[.agg #[.slice A0 nodes.length c0, .slice A1 sr.length c1], .int .i64 row, .slice A2 known.length c2] w fun e w' => e = .returned (.bool r) ∧ Below w.heap.size w w'
theorem leafC (f0 : Int) (f1 : ByteArray) (A2 : Option Addr) (c2 : Nat) (l2 : List S69) (f3 : ByteArray) (A4 : Option Addr) (c4 : Nat) (l4 : List Int) (w : World) (h2 : Kd.C k69 w A2 l2.length l2) (hc2 : l2.length ≤ c2) (h4 : Kd.C (Kd.int .i64) w A4 l4.length l4) (hc4 : l4.length ≤ c4) :
  Calls Try.prog 64 #[.agg #[.int .i64 f0, .string f1, .slice A2 l2.length c2, .string f3, .slice A4 l4.length c4]] w fun e w' => ∃ A c, e = .returned (.agg #[.int .i64 f0, .string f1, .slice A l2.length c, .string f3]) ∧ l2.length ≤ c ∧ Kd.C k69 w' A l2.length l2 ∧ Below w.heap.size w w' := by
 refine (spec_l11Leaf.calls f0 f1 (fun _ => True) A2 c2 l2 f3 A4 c4 l4 f0 f1 l2 f3 w ⟨A2, c2, rfl, hc2, fun W' hW => Kd.Heap.C k69_heap (fun k hk => hW k trivial hk) h2⟩ h4 hc4 rfl).mono ?_
 ·rintro e w' ⟨v, rfl, ⟨A, c, rfl, hl, hf⟩, hb⟩; exact ⟨A, c, rfl, hl, Kd.F_now hf, hb⟩
structure Rs (w wl : World) (gs gx : Nat) (A0 : Option Addr) (c0 : Nat) (nodes : List S98) (A1 : Option Addr) (c1 : Nat) (sr : List S82) (x : S98) (Aa : Option Addr) (ca : Nat) (Ak : Option Addr) (ck : Nat) : Prop where
 bel : Below w.heap.size w wl
 bs : wl.heap[gs]? = some (.cells #[.slice A0 nodes.length c0, .slice A1 sr.length c1] 53 (0, 0))
 bx : wl.heap[gx]? = some (.cells #[.int .i64 x.f0, .string x.f1, .slice Aa x.f2.length ca, .string x.f3, .slice Ak x.f4.length ck] 98 (0, 0))
 n : Kd.C k98 wl A0 nodes.length nodes
 m : Kd.C k82 wl A1 sr.length sr
 kd : Kd.C (Kd.int .i64) wl Ak x.f4.length x.f4
theorem Rs.step {w wl w2 : World} {gs gx : Nat} {A0 : Option Addr} {c0 : Nat} {nodes : List S98} {A1 : Option Addr} {c1 : Nat} {sr : List S82} {x : S98} {Aa : Option Addr} {ca : Nat} {Ak : Option Addr} {ck : Nat} (h : Rs w wl gs gx A0 c0 nodes A1 c1 sr x Aa ca Ak ck) (hb : Below wl.heap.size wl w2) : Rs w w2 gs gx A0 c0 nodes A1 c1 sr x Aa ca Ak ck :=
 ⟨h.bel.trans (hb.mono h.bel.size), (hb.block gs (blk_lt h.bs)).trans h.bs, (hb.block gx (blk_lt h.bx)).trans h.bx, Kd.C_below h.n hb, Kd.C_below h.m hb, Kd.C_below h.kd hb⟩
set_option maxHeartbeats 16000000 in
theorem l11Row_con (k : Nat) (iha : ∀ j, j ≤ k → ConK 53 (spec_l11Alt.f j)) : ConK 63 (spec_l11Row.f (k + 1)) := by
 intro A0 c0 nodes A1 c1 sr row A2 c2 known r w h0 hc0 h1 hc1 h2 hc2 h; simp only [spec_l11Row.f] at h; by_cases d0 : 0 ≤ row
 case neg => rw [if_neg d0] at h; exact absurd h (by simp)
 rw [if_pos d0] at h; by_cases d1 : row < (nodes.length : Int)
 case neg => rw [if_neg d1] at h; exact absurd h (by simp)
 rw [if_pos d1] at h; have HH := am h; have IHA := am iha; have HC := am (show nodes.length ≤ c0 ∧ sr.length ≤ c1 from ⟨hc0, hc1⟩); have HK2 := am hc2; have H0 := am h0; have H1 := am h1; have H2 := am h2; have D := am (show 0 ≤ row ∧ row < (nodes.length : Int) from ⟨d0, d1⟩); clear h iha hc0 hc1 hc2 h0 h1 h2 d0 d1; go_enter Try.func63, Try.ntmps63; go_upto_region 1 with fail; have hs := heap_alloc_new w (.cells #[.slice A0 nodes.length c0, .slice A1 sr.length c1] 53); have hB := below_alloc (Below.refl w.heap.size w) (.cells #[.slice A0 nodes.length c0, .slice A1 sr.length c1] 53); have HS1 := am hs; have HB1 := am hB; have h0 := Kd.C_below H0.out hB; have h1 := Kd.C_below H1.out hB; have h2 := Kd.C_below H2.out hB; clear H0 H1 H2 hs hB; obtain ⟨gs, hgs⟩ : ∃ gs, w.heap.size = gs := ⟨_, rfl⟩; rw [hgs] at HS1 ⊢; clear hgs; generalize w.alloc (.cells #[.slice A0 nodes.length c0, .slice A1 sr.length c1] 53) = w1 at *; obtain ⟨ad, Aa, ca, Ak, ck, e0, hn0, hn1, hn2, hn3, hn4, hla, hca, hlk, hck⟩ := at_T98 h0 row D.out.1 D.out.2; subst e0; have p0 := eq_true D.out.1; have p1 := eq_true D.out.2; have hz0 : w1.cell? ⟨gs, 0, none⟩ = some (.slice (some ad) nodes.length c0) := (blk_cell HS1.out 0).trans rfl; have H0 := am h0; have H1 := am h1; have H2 := am h2; have HKid := am (show (rd_T98 nodes row).f4.length ≤ ck ∧ Kd.C (Kd.int .i64) w1 Ak (rd_T98 nodes row).f4.length (rd_T98 nodes row).f4 from ⟨hlk, hck⟩); clear h0 h1 h2 hla hca hlk hck D; go_upto_region 2 with fail; have hb2 := below_alloc (Below.refl w1.heap.size w1) (.cells #[.int .i64 (rd_T98 nodes row).f0, .string (rd_T98 nodes row).f1, .slice Aa (rd_T98 nodes row).f2.length ca, .string (rd_T98 nodes row).f3, .slice Ak (rd_T98 nodes row).f4.length ck] 98); have HR := am (show Rs w _ gs w1.heap.size (some ad) c0 nodes A1 c1 sr (rd_T98 nodes row) Aa ca Ak ck from ⟨HB1.out.trans (hb2.mono HB1.out.size), (hb2.block gs (blk_lt HS1.out)).trans HS1.out, heap_alloc_new w1 _, Kd.C_below H0.out hb2, Kd.C_below H1.out hb2, Kd.C_below HKid.out.2 hb2⟩); have HN := am (show known.length ≤ c2 ∧ Kd.C Kd.string _ A2 known.length known from ⟨HK2.out, Kd.C_below H2.out hb2⟩); have HL := am HKid.out.1; clear hb2 HB1 HS1 H0 H1 H2 HKid hz0 hn0 hn1 hn2 hn3 hn4 p0 p1 HK2; generalize w1.heap.size = gx at *; go_wp2; go_loopg [2, 8] k (fun kq v2 v8 w' => ∃ (kn : List ByteArray) (A2 : Option Addr) (c2 : Nat) (i : Int), v2 = .slice A2 kn.length c2 ∧ v8 = .int .i64 i ∧ Aside0 (spec_l11Row.l0 kq nodes sr (rd_T98 nodes row).f4 kn i = some r) ∧ Aside0 (kq ≤ k) ∧ Aside0 (kn.length ≤ c2 ∧ Kd.C Kd.string w' A2 kn.length kn) ∧ Aside0 (Rs w w' gs gx (some ad) c0 nodes A1 c1 sr (rd_T98 nodes row) Aa ca Ak ck))
 case atStart => exact ⟨known, A2, c2, 0, rfl, rfl, HH, ⟨Nat.le_refl _⟩, HN, HR⟩
 case round =>
  clear HH HR HN; obtain ⟨kn, A2, c2, i, rfl, rfl, HA, HK, HN, HR⟩ := hrel
  cases gk with
  | zero => exact absurd HA.out (by simp [spec_l11Row.l0])
  | succ kq =>
  have H := HA.out; clear HA; simp only [spec_l11Row.l0] at H; generalize hx : rd_T98 nodes row = x at *; clear hx; have hx4 : wr.cell? ⟨gx, 4, none⟩ = some (.slice Ak x.f4.length ck) := (blk_cell HR.out.bx 4).trans rfl; by_cases d0 : i < (x.f4.length : Int)
  case neg =>
   rw [if_neg d0] at H; obtain rfl := si H; have d0b : decide (i < (x.f4.length : Int)) = false := decide_eq_false d0; clear d0; go_wp2; go_ret; exact ⟨rfl, HR.out.bel⟩
  rw [if_pos d0] at H; by_cases d1 : 0 ≤ i
  case neg => rw [if_neg d1] at H; exact absurd H (by simp)
  rw [if_pos d1] at H; by_cases d2 : 0 ≤ rd x.f4 i
  case neg => rw [if_neg d2] at H; exact absurd H (by simp)
  rw [if_pos d2] at H; by_cases d3 : rd x.f4 i < (nodes.length : Int)
  case neg => rw [if_neg d3] at H; exact absurd H (by simp)
  rw [if_pos d3] at H; obtain ⟨ak, ek, hk⟩ := Kd.at_int HR.out.kd i d1 d0; subst ek; obtain ⟨ad2, Ab, cb, Aj, cj, e2, hm0, hm1, hm2, hm3, hm4, hlb, hcb, hlj, hcj⟩ := at_T98 HR.out.n (rd x.f4 i) d2 d3; obtain rfl : ad = ad2 := by injection e2
  have d0b : decide (i < (x.f4.length : Int)) = true := decide_eq_true d0; have q0 := eq_true d0; have q1 := eq_true d1; have q2 := eq_true d2; have q3 := eq_true d3; have hs0 : wr.cell? ⟨gs, 0, none⟩ = some (.slice (some ad) nodes.length c0) := (blk_cell HR.out.bs 0).trans rfl; have HYb := am (show (rd_T98 nodes (rd x.f4 i)).f2.length ≤ cb ∧ Kd.C k69 wr Ab (rd_T98 nodes (rd x.f4 i)).f2.length (rd_T98 nodes (rd x.f4 i)).f2 from ⟨hlb, hcb⟩); have HYj := am (show (rd_T98 nodes (rd x.f4 i)).f4.length ≤ cj ∧ Kd.C (Kd.int .i64) wr Aj (rd_T98 nodes (rd x.f4 i)).f4.length (rd_T98 nodes (rd x.f4 i)).f4 from ⟨hlj, hcj⟩); clear d0 d1 d2 d3 hlb hcb hlj hcj e2; go_upto_region 5 with fail; have hA : ∀ o a v, wr.cell? a = some v → (wr.alloc o).cell? a = some v := fun o a v h => ((below_alloc (Below.refl wr.heap.size wr) o).cell (World.block_lt_of_cell? wr _ h)).trans h
  have go0 := fun o => hA o _ _ hs0
  have go1 := fun o => hA o _ _ hx4
  have go2 := fun o => hA o _ _ hk
  have go3 := fun o => hA o _ _ hm0
  have go4 := fun o => hA o _ _ hm1
  have go5 := fun o => hA o _ _ hm2
  have go6 := fun o => hA o _ _ hm3
  have go7 := fun o => hA o _ _ hm4
  clear hA; go_cut [9] (fun v9 wc => v9 = .pointer (some ⟨wr.heap.size, 0, none⟩) ∧ Aside0 (Below wr.heap.size wr wc) ∧ Aside0 (wc.heap[wr.heap.size]? = some (.cells #[.int .i64 (rd_T98 nodes (rd x.f4 i)).f0, .string (rd_T98 nodes (rd x.f4 i)).f1, .slice Ab (rd_T98 nodes (rd x.f4 i)).f2.length cb, .string (rd_T98 nodes (rd x.f4 i)).f3, .slice Aj (rd_T98 nodes (rd x.f4 i)).f4.length cj] 98 (0, 0))))
  case first =>
   go_region_law (fail); all_goals (go_wp2_with fail; go_meet; case rel => (exact ⟨rfl, ⟨below_alloc (below_drew (Below.refl _ _)) _⟩, ⟨heap_alloc_new wr.drew _⟩⟩))
  case rest =>
  obtain ⟨rfl, HB5, HY⟩ := hcut; have HR5 := am (HR.out.step HB5.out); have HN5 := am (show kn.length ≤ c2 ∧ Kd.C Kd.string wc A2 kn.length kn from ⟨HN.out.1, Kd.C_below HN.out.2 HB5.out⟩); have HYb5 := am (show _ ∧ _ from ⟨HYb.out.1, Kd.C_below HYb.out.2 HB5.out⟩); have HYj5 := am (show _ ∧ _ from ⟨HYj.out.1, Kd.C_below HYj.out.2 HB5.out⟩); have HK5 := am ((HB5.out.cell (World.block_lt_of_cell? wr _ hk)).trans hk); clear go0 go1 go2 go3 go4 go5 go6 go7 hk hm0 hm1 hm2 hm3 hm4 hs0 hx4 HR HN HYb HYj HB5 q2 q3 d0b; generalize wr.heap.size = gy at *; generalize hy : rd_T98 nodes (rd x.f4 i) = y at *; have hy0 : wc.cell? ⟨gy, 0, none⟩ = some (.int .i64 y.f0) := (blk_cell HY.out 0).trans rfl; refine (‹∀ (a : Act) (w : World), Code.wp Try.prog _ _ a w → _›) _ _ ?_; by_cases d4 : y.f0 ≤ 4
  ·rw [if_pos d4] at H; obtain ⟨pa, h1, H⟩ := Option.bind_eq_some_iff.mp H; obtain ⟨⟨m1, m2⟩, h2, H⟩ := Option.bind_eq_some_iff.mp H; have H1 := am h1; have H2 := am h2; have HQ := am H; have d4b : decide (y.f0 ≤ 4) = true := decide_eq_true d4; clear h1 h2 H d4; go_upto_region 7 with fail
   have HS := am (show ∀ w', Below wc.heap.size wc w' → w'.cell? ⟨gs, 0, none⟩ = some (.slice (some ad) nodes.length c0) ∧ w'.cell? ⟨gs, 1, none⟩ = some (.slice A1 sr.length c1) ∧ w'.cell? ⟨gy, 0, none⟩ = some (.int .i64 y.f0) ∧ w'.cell? ⟨gy, 1, none⟩ = some (.string y.f1) ∧ w'.cell? ⟨gy, 2, none⟩ = some (.slice Ab y.f2.length cb) ∧ w'.cell? ⟨gy, 3, none⟩ = some (.string y.f3) ∧ w'.cell? ⟨gy, 4, none⟩ = some (.slice Aj y.f4.length cj) ∧ Below wc.heap.size wc w' from fun w' hb => by
    have hs := (hb.block gs (blk_lt HR5.out.bs)).trans HR5.out.bs; have hy := (hb.block gy (blk_lt HY.out)).trans HY.out
    exact ⟨(blk_cell hs 0).trans rfl, (blk_cell hs 1).trans rfl, (blk_cell hy 0).trans rfl, (blk_cell hy 1).trans rfl, (blk_cell hy 2).trans rfl, (blk_cell hy 3).trans rfl, (blk_cell hy 4).trans rfl, hb⟩)
   go_region_held3 (fun w' => w'.cell? ⟨gs, 0, none⟩ = some (.slice (some ad) nodes.length c0) ∧ w'.cell? ⟨gs, 1, none⟩ = some (.slice A1 sr.length c1) ∧ w'.cell? ⟨gy, 0, none⟩ = some (.int .i64 y.f0) ∧ w'.cell? ⟨gy, 1, none⟩ = some (.string y.f1) ∧ w'.cell? ⟨gy, 2, none⟩ = some (.slice Ab y.f2.length cb) ∧ w'.cell? ⟨gy, 3, none⟩ = some (.string y.f3) ∧ w'.cell? ⟨gy, 4, none⟩ = some (.slice Aj y.f4.length cj) ∧ Below wc.heap.size wc w') (first | exact HS.out _ hbz | exact HS.out _ (below_drew (Below.refl _ _)))
    (first
     | (go_at_call 64; have hq := (show World.cell? _ _ = _ ∧ World.cell? _ _ = _ ∧ World.cell? _ _ = _ ∧ World.cell? _ _ = _ ∧ World.cell? _ _ = _ ∧ World.cell? _ _ = _ ∧ World.cell? _ _ = _ ∧ Below wc.heap.size wc _ by assumption).2.2.2.2.2.2.2; refine (leafC y.f0 y.f1 Ab cb y.f2 y.f3 Aj cj y.f4 _ (Kd.C_below HYb5.out.2 hq) HYb5.out.1 (Kd.C_below HYj5.out.2 hq) HYj5.out.1).mono ?_; rintro e w6 ⟨Al, cl, rfl, hl, hcl, hb6⟩; have hbz := hq.trans (hb6.mono hq.size); have HCL := am (show y.f2.length ≤ cl ∧ Kd.C k69 w6 Al y.f2.length y.f2 ∧ Below wc.heap.size wc w6 from ⟨hl, hcl, hbz⟩); clear hl hcl hb6 hq)
     | (go_at_call 74; have hq := (show World.cell? _ _ = _ ∧ World.cell? _ _ = _ ∧ World.cell? _ _ = _ ∧ World.cell? _ _ = _ ∧ World.cell? _ _ = _ ∧ World.cell? _ _ = _ ∧ World.cell? _ _ = _ ∧ Below wc.heap.size wc _ by assumption).2.2.2.2.2.2.2; refine (spec_l11Params.calls kq (some ad) c0 nodes A1 c1 sr y.f1 pa _ (Kd.C_below HR5.out.n hq) HC.out.1 (Kd.C_below HR5.out.m hq) HC.out.2 H1.out).mono ?_; rintro e w7 ⟨rfl, hb7⟩; have hbz := hq.trans (hb7.mono hq.size); clear hq)
     | (go_at_call 73; have hq := (show World.cell? _ _ = _ ∧ World.cell? _ _ = _ ∧ World.cell? _ _ = _ ∧ World.cell? _ _ = _ ∧ World.cell? _ _ = _ ∧ World.cell? _ _ = _ ∧ World.cell? _ _ = _ ∧ Below wc.heap.size wc _ by assumption).2.2.2.2.2.2.2; refine (l06SymR_calls kq y.f0 y.f1 Al cl y.f2 y.f3 A2 c2 kn pa m1 m2 _ (Kd.C_below HCL.out.2.1 hb7) HCL.out.1 (Kd.C_below HN5.out.2 hq) HN5.out.1 H2.out).mono ?_; rintro e w8 ⟨Am, cm, rfl, hlm, hcm, hb8⟩; have hbz := hq.trans (hb8.mono hq.size); have HM := am (show m1.length ≤ cm ∧ Kd.C Kd.string w8 Am m1.length m1 from ⟨hlm, hcm⟩); have HR8 := am (HR5.out.step hbz); clear hlm hcm hb8 hq))
   all_goals (
    refine (‹∀ (a : Act) (w : World), Code.wp Try.prog _ _ a w → _›) _ _ ?_
    cases m2 with
    | true =>
     rw [if_pos rfl] at HQ; go_wp2; go_roundg kq
     case measure => exact Nat.lt_succ_self _
     case rel => exact ⟨m1, Am, cm, wrap64 (i + 1), rfl, rfl, HQ, ⟨Nat.le_of_succ_le HK.out⟩, HM, HR8⟩
    | false =>
     rw [if_neg (by decide)] at HQ; obtain rfl := Option.some.inj HQ.out; go_wp2; go_ret
     exact ⟨rfl, HR8.out.bel⟩)
  ·rw [if_neg d4] at H; obtain ⟨gp, h1, H⟩ := Option.bind_eq_some_iff.mp H; obtain ⟨b, h2, H⟩ := Option.bind_eq_some_iff.mp H; have H1 := am h1; have H2 := am h2; have HQ := am H; have d4b : decide (y.f0 ≤ 4) = false := decide_eq_false d4; clear h1 h2 H d4; go_upto_region 11 with fail
   have HS := am (show ∀ w', Below wc.heap.size wc w' → w'.cell? ⟨gs, 0, none⟩ = some (.slice (some ad) nodes.length c0) ∧ w'.cell? ⟨gs, 1, none⟩ = some (.slice A1 sr.length c1) ∧ w'.cell? ⟨gx, 4, none⟩ = some (.slice (some ak) x.f4.length ck) ∧ w'.cell? (ak.add i.toNat) = some (.int .i64 (rd x.f4 i)) ∧ Below wc.heap.size wc w' from fun w' hb => by
    have hs := (hb.block gs (blk_lt HR5.out.bs)).trans HR5.out.bs; have hx := (hb.block gx (blk_lt HR5.out.bx)).trans HR5.out.bx
    exact ⟨(blk_cell hs 0).trans rfl, (blk_cell hs 1).trans rfl, (blk_cell hx 4).trans rfl, (hb.cell (World.block_lt_of_cell? wc _ HK5.out)).trans HK5.out, hb⟩)
   go_region_held3 (fun w' => w'.cell? ⟨gs, 0, none⟩ = some (.slice (some ad) nodes.length c0) ∧ w'.cell? ⟨gs, 1, none⟩ = some (.slice A1 sr.length c1) ∧ w'.cell? ⟨gx, 4, none⟩ = some (.slice (some ak) x.f4.length ck) ∧ w'.cell? (ak.add i.toNat) = some (.int .i64 (rd x.f4 i)) ∧ Below wc.heap.size wc w') (first | exact HS.out _ hbz | exact HS.out _ (below_drew (Below.refl _ _)))
    (first
     | (go_at_call 68; have hq := (show World.cell? _ _ = _ ∧ World.cell? _ _ = _ ∧ World.cell? _ _ = _ ∧ World.cell? _ _ = _ ∧ Below wc.heap.size wc _ by assumption).2.2.2.2; refine (spec_l11Group.calls (some ad) c0 nodes A1 c1 sr (rd x.f4 i) gp _ (Kd.C_below HR5.out.n hq) HC.out.1 (Kd.C_below HR5.out.m hq) HC.out.2 H1.out).mono ?_; rintro e w7 ⟨rfl, hb7⟩; have hbz := hq.trans (hb7.mono hq.size); clear hq)
     | (go_at_call 53; have hq := (show World.cell? _ _ = _ ∧ World.cell? _ _ = _ ∧ World.cell? _ _ = _ ∧ World.cell? _ _ = _ ∧ Below wc.heap.size wc _ by assumption).2.2.2.2; refine (IHA.out kq (Nat.le_of_succ_le HK.out) (some ad) c0 nodes A1 c1 sr gp A2 c2 kn b _ (Kd.C_below HR5.out.n hq) HC.out.1 (Kd.C_below HR5.out.m hq) HC.out.2 (Kd.C_below HN5.out.2 hq) HN5.out.1 H2.out).mono ?_; rintro e w8 ⟨rfl, hb8⟩; have hbz := hq.trans (hb8.mono hq.size); have HM := am (show kn.length ≤ c2 ∧ Kd.C Kd.string w8 A2 kn.length kn from ⟨HN5.out.1, Kd.C_below HN5.out.2 hbz⟩); have HR8 := am (HR5.out.step hbz); clear hb8 hq))
   all_goals (
    refine (‹∀ (a : Act) (w : World), Code.wp Try.prog _ _ a w → _›) _ _ ?_
    cases b with
    | true =>
     rw [if_pos rfl] at HQ; go_wp2; go_roundg kq
     case measure => exact Nat.lt_succ_self _
     case rel => exact ⟨kn, A2, c2, wrap64 (i + 1), rfl, rfl, HQ, ⟨Nat.le_of_succ_le HK.out⟩, HM, HR8⟩
    | false =>
     rw [if_neg (by decide)] at HQ; obtain rfl := Option.some.inj HQ.out; go_wp2; go_ret
     exact ⟨rfl, HR8.out.bel⟩)
structure Rt (w wl : World) (gs : Nat) (A0 : Option Addr) (c0 : Nat) (nodes : List S98) (A1 : Option Addr) (c1 : Nat) (sr : List S82) (A2 : Option Addr) (c2 : Nat) (kn : List ByteArray) : Prop where
 bel : Below w.heap.size w wl
 bs : wl.heap[gs]? = some (.cells #[.slice A0 nodes.length c0, .slice A1 sr.length c1] 53 (0, 0))
 n : Kd.C k98 wl A0 nodes.length nodes
 m : Kd.C k82 wl A1 sr.length sr
 kn : Kd.C Kd.string wl A2 kn.length kn
theorem Rt.step {w wl w2 : World} {gs : Nat} {A0 : Option Addr} {c0 : Nat} {nodes : List S98} {A1 : Option Addr} {c1 : Nat} {sr : List S82} {A2 : Option Addr} {c2 : Nat} {kn : List ByteArray} (h : Rt w wl gs A0 c0 nodes A1 c1 sr A2 c2 kn) (hb : Below wl.heap.size wl w2) : Rt w w2 gs A0 c0 nodes A1 c1 sr A2 c2 kn :=
 ⟨h.bel.trans (hb.mono h.bel.size), (hb.block gs (blk_lt h.bs)).trans h.bs, Kd.C_below h.n hb, Kd.C_below h.m hb, Kd.C_below h.kn hb⟩
set_option maxHeartbeats 16000000 in
theorem l11Alt_con (k : Nat) (ihr : ∀ j, j ≤ k → ConK 63 (spec_l11Row.f j)) : ConK 53 (spec_l11Alt.f (k + 1)) := by
 intro A0 c0 nodes A1 c1 sr alt A2 c2 kn r w h0 hc0 h1 hc1 h2 hc2 h; simp only [spec_l11Alt.f] at h; by_cases d0 : 0 ≤ alt
 case neg => rw [if_neg d0] at h; exact absurd h (by simp)
 rw [if_pos d0] at h; by_cases d1 : alt < (nodes.length : Int)
 case neg => rw [if_neg d1] at h; exact absurd h (by simp)
 rw [if_pos d1] at h; have HH := am h; have IHR := am ihr; have HC := am (show nodes.length ≤ c0 ∧ sr.length ≤ c1 ∧ kn.length ≤ c2 from ⟨hc0, hc1, hc2⟩); have D := am (show 0 ≤ alt ∧ alt < (nodes.length : Int) from ⟨d0, d1⟩); have H0 := am h0; have H1 := am h1; have H2 := am h2; clear h ihr hc0 hc1 hc2 h0 h1 h2 d0 d1; go_enter Try.func53, Try.ntmps53; go_upto_region 1 with fail; have hs := heap_alloc_new w (.cells #[.slice A0 nodes.length c0, .slice A1 sr.length c1] 53); have hB := below_alloc (Below.refl w.heap.size w) (.cells #[.slice A0 nodes.length c0, .slice A1 sr.length c1] 53); have HR := am (show Rt w _ w.heap.size A0 c0 nodes A1 c1 sr A2 c2 kn from ⟨hB, hs, Kd.C_below H0.out hB, Kd.C_below H1.out hB, Kd.C_below H2.out hB⟩); clear H0 H1 H2 hs hB; obtain ⟨gs, hgs⟩ : ∃ gs, w.heap.size = gs := ⟨_, rfl⟩; rw [hgs] at HR ⊢; clear hgs; generalize w.alloc (.cells #[.slice A0 nodes.length c0, .slice A1 sr.length c1] 53) = w1 at *; go_wp2; go_loopg [7] k (fun kq v7 w' => ∃ i : Int, v7 = .int .i64 i ∧ Aside0 (spec_l11Alt.l0 kq nodes sr alt kn i = some r) ∧ Aside0 (kq ≤ k) ∧ Aside0 (Rt w w' gs A0 c0 nodes A1 c1 sr A2 c2 kn))
 case atStart => exact ⟨0, rfl, HH, ⟨Nat.le_refl _⟩, HR⟩
 case round =>
  clear HH HR; obtain ⟨i, rfl, HA, HK, HR⟩ := hrel
  cases gk with
  | zero => exact absurd HA.out (by simp [spec_l11Alt.l0])
  | succ kq =>
  have H := HA.out; clear HA; simp only [spec_l11Alt.l0] at H; obtain ⟨ad, Ab, cb, Ak, ck, e0, hm0, hm1, hm2, hm3, hm4, hlb, hcb, hlj, hcj⟩ := at_T98 HR.out.n alt D.out.1 D.out.2; subst e0; have q2 := eq_true D.out.1; have q3 := eq_true D.out.2; have hs0 : wr.cell? ⟨gs, 0, none⟩ = some (.slice (some ad) nodes.length c0) := (blk_cell HR.out.bs 0).trans rfl; have HKd := am hcj; clear hm0 hm1 hm2 hm3 hlb hcb hlj hcj; generalize hx : rd_T98 nodes alt = x at *; clear hx; by_cases d0 : i < (x.f4.length : Int)
  case neg =>
   rw [if_neg d0] at H; obtain rfl := si H; have d0b : decide (i < (x.f4.length : Int)) = false := decide_eq_false d0; clear d0; go_wp2; go_ret; exact ⟨rfl, HR.out.bel⟩
  rw [if_pos d0] at H; by_cases d1 : 0 ≤ i
  case neg => rw [if_neg d1] at H; exact absurd H (by simp)
  rw [if_pos d1] at H; obtain ⟨b, h2, H⟩ := Option.bind_eq_some_iff.mp H; obtain ⟨ak, ek, hk⟩ := Kd.at_int HKd.out i d1 d0; subst ek; have H2 := am h2; have HQ := am H; have d0b : decide (i < (x.f4.length : Int)) = true := decide_eq_true d0; have q0 := eq_true d0; have q1 := eq_true d1; clear h2 H d0 d1 HKd; go_upto_region 4 with fail
  have HS := am (show ∀ w', Below wr.heap.size wr w' → w'.cell? ⟨gs, 0, none⟩ = some (.slice (some ad) nodes.length c0) ∧ w'.cell? ⟨gs, 1, none⟩ = some (.slice A1 sr.length c1) ∧ w'.cell? ⟨(ad.add (alt.toNat * 5)).block, (ad.add (alt.toNat * 5)).off + 4, none⟩ = some (.slice (some ak) x.f4.length ck) ∧ w'.cell? (ak.add i.toNat) = some (.int .i64 (rd x.f4 i)) ∧ Below wr.heap.size wr w' from fun w' hb => by
   have hs := (hb.block gs (blk_lt HR.out.bs)).trans HR.out.bs
   exact ⟨(blk_cell hs 0).trans rfl, (blk_cell hs 1).trans rfl, (hb.cell (World.block_lt_of_cell? wr _ hm4)).trans hm4, (hb.cell (World.block_lt_of_cell? wr _ hk)).trans hk, hb⟩)
  go_region_held3 (fun w' => w'.cell? ⟨gs, 0, none⟩ = some (.slice (some ad) nodes.length c0) ∧ w'.cell? ⟨gs, 1, none⟩ = some (.slice A1 sr.length c1) ∧ w'.cell? ⟨(ad.add (alt.toNat * 5)).block, (ad.add (alt.toNat * 5)).off + 4, none⟩ = some (.slice (some ak) x.f4.length ck) ∧ w'.cell? (ak.add i.toNat) = some (.int .i64 (rd x.f4 i)) ∧ Below wr.heap.size wr w') (first | exact HS.out _ hbz | exact HS.out _ (below_drew (Below.refl _ _)))
   ((go_at_call 63; have hq := (show World.cell? _ _ = _ ∧ World.cell? _ _ = _ ∧ World.cell? _ _ = _ ∧ World.cell? _ _ = _ ∧ Below wr.heap.size wr _ by assumption).2.2.2.2; refine (IHR.out kq (Nat.le_of_succ_le HK.out) (some ad) c0 nodes A1 c1 sr (rd x.f4 i) A2 c2 kn b _ (Kd.C_below HR.out.n hq) HC.out.1 (Kd.C_below HR.out.m hq) HC.out.2.1 (Kd.C_below HR.out.kn hq) HC.out.2.2 H2.out).mono ?_; rintro e w8 ⟨rfl, hb8⟩; have hbz := hq.trans (hb8.mono hq.size); have HR8 := am (HR.out.step hbz); clear hb8 hq))
  all_goals (
   refine (‹∀ (a : Act) (w : World), Code.wp Try.prog _ _ a w → _›) _ _ ?_
   cases b with
   | true =>
    rw [if_pos rfl] at HQ; go_wp2; go_roundg kq
    case measure => exact Nat.lt_succ_self _
    case rel => exact ⟨wrap64 (i + 1), rfl, HQ, ⟨Nat.le_of_succ_le HK.out⟩, HR8⟩
   | false =>
    rw [if_neg (by decide)] at HQ; obtain rfl := Option.some.inj HQ.out; go_wp2; go_ret
    exact ⟨rfl, HR8.out.bel⟩)
theorem all_conK : ∀ k, ConK 63 (spec_l11Row.f k) ∧ ConK 53 (spec_l11Alt.f k) := by
 intro k
 induction k using Nat.strongRecOn with
 | _ k ih =>
 cases k with
 | zero =>
  refine ⟨?_, ?_⟩ <;> intro A0 c0 nodes A1 c1 sr alt A2 c2 kn r w h0 hc0 h1 hc1 h2 hc2 h
  ·exact absurd h (by simp [spec_l11Row.f])
  ·exact absurd h (by simp [spec_l11Alt.f])
 | succ k =>
  have i := fun j (hj : j ≤ k) => ih j (Nat.lt_succ_of_le hj)
  exact ⟨l11Row_con k (fun j hj => (i j hj).2), l11Alt_con k (fun j hj => (i j hj).1)⟩
theorem spec_l11Alt.calls (k : Nat) (A0_0 : Option Addr) (c0_0 : Nat) (l0_0 : List S98) (A0_1 : Option Addr) (c0_1 : Nat) (l0_1 : List S82) (a1 : Int) (A2 : Option Addr) (c2 : Nat) (l2 : List ByteArray) (r : Bool) (w : World) (hr0_0 : Kd.C k98 w A0_0 l0_0.length l0_0) (hc0_0 : l0_0.length ≤ c0_0) (hr0_1 : Kd.C k82 w A0_1 l0_1.length l0_1) (hc0_1 : l0_1.length ≤ c0_1) (hr2 : Kd.C Kd.string w A2 l2.length l2) (hc2 : l2.length ≤ c2) (h : spec_l11Alt.f k l0_0 l0_1 a1 l2 = some r) :
  Calls Try.prog 53 #[.agg #[.slice A0_0 l0_0.length c0_0, .slice A0_1 l0_1.length c0_1], .int .i64 a1, .slice A2 l2.length c2] w fun e w' => e = .returned (.bool r) ∧ Below w.heap.size w w' :=
 (all_conK k).2 A0_0 c0_0 l0_0 A0_1 c0_1 l0_1 a1 A2 c2 l2 r w hr0_0 hc0_0 hr0_1 hc0_1 hr2 hc2 h
theorem spec_l11Alt.mono_l : ∀ k, (∀ y0 y1 y2 y3, LeO (spec_l11Row.f k y0 y1 y2 y3) (spec_l11Row.f (k + 1) y0 y1 y2 y3)) ∧ (∀ y0 y1 y2 y3 y4, LeO (spec_l11Row.l0 k y0 y1 y2 y3 y4) (spec_l11Row.l0 (k + 1) y0 y1 y2 y3 y4)) ∧ (∀ y0 y1 y2 y3, LeO (spec_l11Alt.f k y0 y1 y2 y3) (spec_l11Alt.f (k + 1) y0 y1 y2 y3)) ∧ (∀ y0 y1 y2 y3 y4, LeO (spec_l11Alt.l0 k y0 y1 y2 y3 y4) (spec_l11Alt.l0 (k + 1) y0 y1 y2 y3 y4))
 | 0 => ⟨fun _ _ _ _ r h => by simp [spec_l11Row.f] at h, fun _ _ _ _ _ r h => by simp [spec_l11Row.l0] at h, fun _ _ _ _ r h => by simp [spec_l11Alt.f] at h, fun _ _ _ _ _ r h => by simp [spec_l11Alt.l0] at h⟩
 | k + 1 => by
  obtain ⟨ih0, ih1, ih2, ih3⟩ := spec_l11Alt.mono_l k; refine ⟨?_, ?_, ?_, ?_⟩
  ·intro y0 y1 y2 y3; unfold spec_l11Row.f; repeat' first
   | exact ih1 _ _ _ _ _
   | exact LeO.refl _
   | refine LeO.ite ?_ ?_
  ·intro y0 y1 y2 y3 y4; unfold spec_l11Row.l0; repeat' first
   | exact ih1 _ _ _ _ _
   | exact ih2 _ _ _ _
   | exact spec_l11Params.mono _ _ _ _
   | exact spec_l06Sym.mono _ _ _ _ _ _ _
   | exact LeO.refl _
   | refine LeO.ite ?_ ?_
   | refine LeO.bind ?_ (fun _ => ?_)
  ·intro y0 y1 y2 y3; unfold spec_l11Alt.f; repeat' first
   | exact ih3 _ _ _ _ _
   | exact LeO.refl _
   | refine LeO.ite ?_ ?_
  ·intro y0 y1 y2 y3 y4; unfold spec_l11Alt.l0; repeat' first
   | exact ih3 _ _ _ _ _
   | exact ih0 _ _ _ _
   | exact LeO.refl _
   | refine LeO.ite ?_ ?_
   | refine LeO.bind ?_ (fun _ => ?_)
theorem spec_l11Alt.mono : ∀ a0 a1 a2 a3 k, LeO (spec_l11Alt.f k a0 a1 a2 a3) (spec_l11Alt.f (k + 1) a0 a1 a2 a3) := fun a0 a1 a2 a3 k => (spec_l11Alt.mono_l k).2.2.1 a0 a1 a2 a3
mutual
def spec_l04Copies.l0 : Nat → List (S69) → List (S69) → Int → Option ((List (S69)))
 | 0, _, _, _ => none
 | k + 1, x0, x3, x4 => if x4 < (x0.length : Int) then (spec_l04Copies.l1 k x0 x3 x4 0 ([] : List (S92))) else (some x3)
def spec_l04Copies.l1 : Nat → List (S69) → List (S69) → Int → Int → List (S92) → Option ((List (S69)))
 | 0, _, _, _, _, _ => none
 | k + 1, x0, x3, x4, x6, x290000 => if 0 ≤ x4 then (if x4 < (x0.length : Int) then (if x6 < (((rd_T69 x0 x4).f0).length : Int) then (if 0 ≤ x6 then ((some (([] : List Int) : List Int)).bind fun y294 => (if y294.length + ((rd_T92 ((rd_T69 x0 x4).f0) x6).f3).length < 17592186044416 then (if x290000.length < 2513169434916 then (spec_l04Copies.l1 k x0 x3 x4 (wrap64 (x6 + 1)) (x290000 ++ [(⟨(rd_T92 ((rd_T69 x0 x4).f0) x6).f0, (rd_T92 ((rd_T69 x0 x4).f0) x6).f1, (rd_T92 ((rd_T69 x0 x4).f0) x6).f2, (y294 ++ ((rd_T92 ((rd_T69 x0 x4).f0) x6).f3))⟩ : S92)])) else (none)) else (none))) else (none)) else (if x3.length < 5864062014805 then (spec_l04Copies.l0 k x0 (x3 ++ [(⟨x290000⟩ : S69)]) (wrap64 (x4 + 1))) else (none))) else (none)) else (none)
end
def spec_l04Copies.f (k : Nat) (l0 : List (S69)) : Option ((List (S69))) := spec_l04Copies.l0 k l0 (([] : List (S69))) 0
theorem spec_l04Copies.mono_l : ∀ k, (∀ y0 y1 y2, LeO (spec_l04Copies.l0 k y0 y1 y2) (spec_l04Copies.l0 (k + 1) y0 y1 y2)) ∧ (∀ y0 y1 y2 y3 y4, LeO (spec_l04Copies.l1 k y0 y1 y2 y3 y4) (spec_l04Copies.l1 (k + 1) y0 y1 y2 y3 y4))
 | 0 => ⟨fun _ _ _ r h => by simp [spec_l04Copies.l0] at h, fun _ _ _ _ _ r h => by simp [spec_l04Copies.l1] at h⟩
 | k + 1 => by
  obtain ⟨ih0, ih1⟩ := spec_l04Copies.mono_l k; refine ⟨?_, ?_⟩
  ·intro y0 y1 y2; unfold spec_l04Copies.l0; repeat' with_reducible first | exact ih1 _ _ _ _ _ | exact LeO.refl _ | refine LeO.ite ?_ ?_
  ·intro y0 y1 y2 y3 y4; unfold spec_l04Copies.l1; repeat' with_reducible first | exact ih0 _ _ _ | exact ih1 _ _ _ _ _ | exact LeO.refl _ | refine LeO.ite ?_ ?_ | refine LeO.bind ?_ (fun _ => ?_)
theorem spec_l04Copies.mono : ∀ a0 k, LeO (spec_l04Copies.f k a0) (spec_l04Copies.f (k + 1) a0) := by
 intro a0 k; obtain ⟨ih0, ih1⟩ := spec_l04Copies.mono_l k; unfold spec_l04Copies.f; repeat' (with_reducible exact ih0 _ _ _)
theorem spec_l04Copies.calls (k : Nat) (A0 : Option Addr) (c0 : Nat) (l0 : List (S69)) (r : List (S69)) (w : World) (hr0 : Kd.C k69 w A0 l0.length l0) (hc0 : l0.length ≤ c0) (h : spec_l04Copies.f k l0 = some r) :
  Calls Try.prog 42 #[.slice A0 l0.length c0] w fun e w' => ∃ v0_ : Value, e = .returned (v0_) ∧ Kd.R k69 69 w' w.heap.size (fun _ => True) v0_ r ∧ Below w.heap.size w w' := by
 have hu69 := Try.underlying69; have hu92 := Try.underlying92; have HR0 := am hr0; have HC0 := am hc0; clear hr0 hc0; have HB := am (Below.refl w.heap.size w); have H : (spec_l04Copies.l0 k l0 (([] : List (S69))) 0) = some r := h; clear h; obtain ⟨y286, hy286⟩ : ∃ y_ : List (S69), y_ = (([] : List (S69))) := ⟨_, rfl⟩; rw [← hy286] at H; have Ny286 := am hy286; clear hy286; have H' := am H; clear H; go_enter Try.func42, Try.ntmps42; go_wp2_with (((with_reducible refine gate_dst (N := 8) rfl ?_); refine Kd.R_lit k69 _ 69 ?hg (N := 8) ?hd (xs := ([] : List (S69))) (inner := []) (ok := fun _ => True) (okp := fun _ => True) ?hr ?hp (fun _ hk => hk) trivial (Below.refl _ _) (Nat.le_refl _) (by simp) ?_; (case hd => rfl); (case hg => rfl); (case hr => (go_simp; done)); (case hp => exact (Reps.none _ _)); intro v287 w2 ho3 hb hg_ hnew_; clear hg_ hnew_; ((rw [← Ny286.out] at ho3)); have HO288 := am (Kd.R_lower ho3 (below_size bw)); replace HB := am (below_step bw hb); clear hb ho3)); go_loopg [3, 4] k (fun kq v3 v4 w' => ∃ (x3_1 : List (S69)) (x4_1 : Int), v4 = .int .i64 x4_1 ∧ Aside0 (spec_l04Copies.l0 kq l0 x3_1 x4_1 = some r) ∧ Aside0 (kq ≤ k) ∧ Aside0 (Kd.R k69 69 w' w.heap.size (fun _ => True) v3 x3_1) ∧ Aside0 (Below w.heap.size w w'))
 case atStart => exact ⟨(y286), (0), (by rfl), H', ⟨Nat.le_refl _⟩, HO288, HB⟩
 case round =>
  clear H'; obtain ⟨x3_1, x4_1, rfl, HA, HK1, HO_3, HB⟩ := hrel
  cases gk with
  | zero => exact absurd HA.out (by simp [spec_l04Copies.l0])
  | succ k1 =>
   have H := HA.out; clear HA; simp only [spec_l04Copies.l0] at H; rcases cd H, H with ⟨⟨c4b0, H⟩ | ⟨c4b0, H⟩, -⟩
   ·have H' := am H; clear H; go_wp2_with (((with_reducible refine gd 5 ?_); refine bo_ #[.slice none 0 0] 69 (w := w) ?_; intro gb289 hg w5 hb BK289 GE289 HB1; replace HO_3 := am (Kd.R_below (Kd.R_elderB HO_3.out gb289 (Nat.le_of_eq hg.symm)) hb); clear HB; have HB := HB1; clear HB1 hb hg; obtain ⟨hcz6_0, hfz6_0⟩ := bc1 BK289.out)); go_loopg [6] k1 (fun kq v6 w' => ∃ (x6_2 : Int) (x290000_2 : List (S92)) (u290000 : Value), v6 = .int .i64 x6_2 ∧ Aside0 (spec_l04Copies.l1 kq l0 x3_1 x4_1 x6_2 x290000_2 = some r) ∧ Aside0 (kq ≤ k1) ∧ Aside0 (Kd.R k69 69 w' w.heap.size (fun k_ => some k_ ≠ (u290000 : Value).ownBlock ∧ k_ ≠ gb289) u3 x3_1) ∧ Aside0 (Kd.S k92 92 w' w.heap.size (fun _ => True) u290000 x290000_2) ∧ Aside0 (w'.heap[gb289]? = some (.cells #[u290000] 69 (0, 0))) ∧ Aside0 (Below w.heap.size w w'))
    case atStart => exact ⟨(0), (([] : List (S92))), (.slice none 0 0), (by rfl), H', ⟨Nat.le_refl _⟩, ⟨by exact Kd.R_mono (Kd.R_far (p := ⟨gb289, 0, none⟩) (Kd.R_mono HO_3.out (fun k_ hk => (⟨hk, hk.2⟩ : _ ∧ k_ ≠ gb289))) (fun _ hk => hk.2) (.slice none 0 0)) (fun _ hk => ⟨(by simp [Value.ownBlock]), hk.1.2⟩)⟩, ⟨by exact Kd.S_nil _ _ _ _ _⟩, ⟨bx⟩, ⟨bw⟩⟩
    case round =>
     clear H'; try clear c4b0
     try clear hcz6_0
     try clear hfz6_0
     obtain ⟨x6_2, x290000_2, u290000, rfl, HA, HK2, HO_3, HO_290000, BK289, HB⟩ := hrel
     cases gk with
     | zero => exact absurd HA.out (by simp [spec_l04Copies.l1])
     | succ k2 =>
      have H := HA.out; clear HA; simp only [spec_l04Copies.l1] at H; rcases cn H, H with ⟨⟨c7b0, H⟩, -⟩; rcases cn H, H with ⟨⟨c8b0, H⟩, -⟩; rcases cd H, H with ⟨⟨c9b0, H⟩ | ⟨c9b0, H⟩, -⟩
      ·rcases cn H, H with ⟨⟨c10b0, H⟩, -⟩; obtain ⟨y294, hy294⟩ : ∃ y_ : List Int, y_ = (([] : List Int)) := ⟨_, rfl⟩; replace H := (Option.bind_some _ _).symm.trans H; rw [← hy294] at H; have Ny294 := am hy294; clear hy294; rcases cm H, H with ⟨⟨c11, H⟩, -⟩; have LMc11 := am c11; clear c11; obtain ⟨y297, hy297⟩ : ∃ y_ : List Int, y_ = (y294 ++ ((rd_T92 ((rd_T69 l0 x4_1).f0) x6_2).f3)) := ⟨_, rfl⟩; rw [← hy297] at H; have Ny297 := am hy297; clear hy297; rcases cm H, H with ⟨⟨c12, H⟩, -⟩; have LMc12 := am c12; clear c12; obtain ⟨y300, hy300⟩ : ∃ y_ : List (S92), y_ = (x290000_2 ++ [(⟨(rd_T92 ((rd_T69 l0 x4_1).f0) x6_2).f0, (rd_T92 ((rd_T69 l0 x4_1).f0) x6_2).f1, (rd_T92 ((rd_T69 l0 x4_1).f0) x6_2).f2, y297⟩ : S92)]) := ⟨_, rfl⟩; rw [← hy300] at H; have Ny300 := am hy300; clear hy300; have H' := am H; clear H; obtain ⟨p290, q290, ad290, A290_0, c290_0, e290, hx290_0, HC290_0, HR290_0⟩ := aw_T69 HB HR0 x4_1 oa oa; cases e290; obtain ⟨p291, q291, ad291, A291_0, c291_0, e291, hx291_0, HC291_0, HR291_0⟩ := aw_T69 HB HR0 x4_1 oa oa; obtain rfl : ad290 = ad291 := (by injection e291); have ea_ := Option.some.inj (hx290_0.symm.trans hx291_0); injection ea_ with ea_ en_ ec_
       subst ea_; subst ec_; clear en_; obtain ⟨p292, q292, ad292, A292_3, c292_3, e292, hx292_0, hx292_1, hx292_2, hx292_3, HC292_3, HR292_3⟩ := aw_T92 HB HR291_0 x6_2 oa oa; cases e292; go_wp2_with (first | ((with_reducible refine gd 7 ?_); refine bo_ #[.int .i64 0, .int .i64 0, .string (⟨#[]⟩ : ByteArray), .slice none 0 0] 92 (w := w) ?_; intro gb293 hg w13 hb BK293 GE293 HB1; have NB289_293 := am ((bl bx hg : gb289 ≠ gb293)); have NB293_289 := am ((bl' bx hg : gb293 ≠ gb289)); replace HO_3 := am (Kd.R_below (Kd.R_elderB HO_3.out gb293 (Nat.le_of_eq hg.symm)) hb); replace HO_290000 := am (Kd.S_below (Kd.S_elderB HO_290000.out gb293 (Nat.le_of_eq hg.symm)) hb); replace BK289 := am (blk_below (g := gb289) (o := .cells #[u290000] 69 (0, 0)) bx hb); clear HB; have HB := HB1; clear HB1 hb hg; have hnb14 := NB293_289.out; have hnc14 := NB289_293.out; have z15 := bc4 BK293.out) | ((with_reducible refine gate_dst (N := 34) rfl ?_); refine Kd.R_lit (Kd.int .i64) _ 3 ?hg (N := 34) ?hd (xs := ([] : List Int)) (inner := []) (ok := fun _ => True) (okp := fun _ => True) ?hr ?hp (fun _ hk => hk) trivial (Below.refl _ _) (Nat.le_refl _) (by simp) ?_; (case hd => rfl); (case hg => rfl); (case hr => (go_simp; done)); (case hp => exact (Reps.none _ _)); intro v295 w16 ho17 hb hg_ hnew_; clear hg_ hnew_; ((rw [← Ny294.out] at ho17)); have HO296 := am (Kd.R_lower ho17 (below_size bw)); replace HO_3 := am (Kd.R_elder' (by exact (Kd.R_mono (Kd.R_far (p := ⟨gb293, 3, none⟩) (Kd.R_far (p := ⟨gb293, 2, none⟩) (Kd.R_far (p := ⟨gb293, 1, none⟩) (Kd.R_far (p := ⟨gb293, 0, none⟩) (Kd.R_mono HO_3.out (fun k_ hk => (⟨hk, hk.2⟩ : _ ∧ k_ ≠ gb293))) (fun _ hk => hk.2) (.int .i64 ((rd_T92 ((rd_T69 l0 x4_1).f0) x6_2).f0))) (fun _ hk => hk.2) (.int .i64 ((rd_T92 ((rd_T69 l0 x4_1).f0) x6_2).f1))) (fun _ hk => hk.2) (.string ((rd_T92 ((rd_T69 l0 x4_1).f0) x6_2).f2))) (fun _ hk => hk.2) (.slice A292_3 ((rd_T92 ((rd_T69 l0 x4_1).f0) x6_2).f3).length c292_3)) (fun _ h_ => h_.1))) (Kd.R_base ho17) hb); replace HO_290000 := am (Kd.S_elder' (by exact (Kd.S_mono (Kd.S_far (p := ⟨gb293, 3, none⟩) (Kd.S_far (p := ⟨gb293, 2, none⟩) (Kd.S_far (p := ⟨gb293, 1, none⟩) (Kd.S_far (p := ⟨gb293, 0, none⟩) (Kd.S_mono HO_290000.out (fun k_ hk => (⟨hk, hk.2⟩ : _ ∧ k_ ≠ gb293))) (fun _ hk => hk.2) (.int .i64 ((rd_T92 ((rd_T69 l0 x4_1).f0) x6_2).f0))) (fun _ hk => hk.2) (.int .i64 ((rd_T92 ((rd_T69 l0 x4_1).f0) x6_2).f1))) (fun _ hk => hk.2) (.string ((rd_T92 ((rd_T69 l0 x4_1).f0) x6_2).f2))) (fun _ hk => hk.2) (.slice A292_3 ((rd_T92 ((rd_T69 l0 x4_1).f0) x6_2).f3).length c292_3)) (fun _ h_ => h_.1))) (Kd.R_base ho17) hb); replace BK289 := am (blk_below (g := gb289) (o := .cells #[u290000] 69 (0, 0)) bx hb); replace BK293 := am (blk_below (g := gb293) (o := .cells #[.int .i64 ((rd_T92 ((rd_T69 l0 x4_1).f0) x6_2).f0), .int .i64 ((rd_T92 ((rd_T69 l0 x4_1).f0) x6_2).f1), .string ((rd_T92 ((rd_T69 l0 x4_1).f0) x6_2).f2), .slice A292_3 ((rd_T92 ((rd_T69 l0 x4_1).f0) x6_2).f3).length c292_3] 92 (0, 0)) bx hb); replace HB := am (below_step bw hb); clear hb ho17; have z18 := bc4 BK293.out) | ((with_reducible refine gate_builtin (b := .append) (xs := #[.tmp 34, .tmp 36]) rfl ?_); at_builtin; refine Kd.R_append_rows (Kd.int .i64) (w0 := w) w.heap.size rfl (.tmp 34) (.tmp 36) 90 3 (.int .i64 0) 8 rfl Try.underlying90 info3 rfl (by decide) (by omega) v295 y294 ((rd_T92 ((rd_T69 l0 x4_1).f0) x6_2).f3) _ _ _ (fun _ => True) (fun _ => False) rfl rfl ?aO ?aR (fun _ _ h => h) (fun _ h => h.elim) ?aF ?aB ?aS ?aL ?_; (case aR => exact kb); (case aB => exact bw); (case aF => exact (fun _ _ => trivial)); (case aO => exact HO296.out); (case aS => exact (below_size bw)); (case aL => have := LMc11.out; omega); intro v298 w19 ho hb hg hat; rw [← Ny297.out] at ho; have HO299 := am (ho); replace HO_3 := am (Kd.R_after (ok := (fun k_ => some k_ ≠ (u290000 : Value).ownBlock ∧ k_ ≠ gb289 ∧ k_ ≠ gb293)) (by exact Kd.R_mono HO_3.out (fun _ hk => ⟨⟨hk.1.1.1, ⟨hk.1.1.2, hk.1.2⟩⟩, hk.2⟩)) hg hat); replace HO_290000 := am (Kd.S_after (ok := (fun k_ => k_ ≠ gb293)) (by exact Kd.S_mono HO_290000.out (fun _ hk => ⟨hk.1.2, hk.2⟩)) hg hat); replace BK289 := am (blk_grown (g := gb289) (o := .cells #[u290000] 69 (0, 0)) bx hg (Kd.R_ne HO296.out BK289.out (by decide))); replace BK293 := am (blk_grown (g := gb293) (o := .cells #[.int .i64 ((rd_T92 ((rd_T69 l0 x4_1).f0) x6_2).f0), .int .i64 ((rd_T92 ((rd_T69 l0 x4_1).f0) x6_2).f1), .string ((rd_T92 ((rd_T69 l0 x4_1).f0) x6_2).f2), .slice A292_3 ((rd_T92 ((rd_T69 l0 x4_1).f0) x6_2).f3).length c292_3] 92 (0, 0)) bx hg (Kd.R_ne HO296.out BK293.out (by decide))); replace HB := am (hb); clear HO296; clear ho hb hg hat; obtain ⟨Ao20, co20, eo20⟩ := Kd.R_slice HO299.out; subst eo20; have z21 := bc4 BK293.out) | ((with_reducible refine gate_store (t := 90) (p := 38) rfl ?_); refine store_event (t := 90) (p := 38) (v := ?vo_w22) (w1 := (w19.setCell ⟨gb293, 3, none⟩ (.slice Ao20 y297.length co20))) ?hg ?ho ?hn ?hr ?_; (case ho => rfl); (case hg => rfl); (case hn => rfl); (case hr => (go_simp; done)); intro w22 hw; have n0_ : Aside0 (Kd.R k69 69 w22 w.heap.size (fun k_ => some k_ ≠ (u290000 : Value).ownBlock ∧ some k_ ≠ (.slice Ao20 y297.length co20 : Value).ownBlock ∧ k_ ≠ gb289 ∧ k_ ≠ gb293) u3 x3_1) := ⟨(by rw [hw]; exact (by exact Kd.R_mono (Kd.R_far (p := ⟨gb293, 3, none⟩) (Kd.R_mono HO_3.out (fun k_ hk => (⟨hk, hk.1.2.2⟩ : _ ∧ k_ ≠ gb293))) (fun _ hk => hk.2) (.slice Ao20 y297.length co20)) (fun _ hk => ⟨hk.1.1.1, ⟨hk.1.2, ⟨hk.1.1.2.1, hk.1.1.2.2⟩⟩⟩)))⟩; have n1_ : Aside0 (Kd.S k92 92 w22 w.heap.size (fun k_ => some k_ ≠ (.slice Ao20 y297.length co20 : Value).ownBlock ∧ k_ ≠ gb293) u290000 x290000_2) := ⟨(by rw [hw]; exact (by exact Kd.S_mono (Kd.S_far (p := ⟨gb293, 3, none⟩) (Kd.S_mono HO_290000.out (fun k_ hk => (⟨hk, hk.1⟩ : _ ∧ k_ ≠ gb293))) (fun _ hk => hk.2) (.slice Ao20 y297.length co20)) (fun _ hk => ⟨hk.1.2, hk.1.1⟩)))⟩; have n2_ : Aside0 (Kd.R (Kd.int .i64) 3 w22 w.heap.size (fun _ => True) (.slice Ao20 y297.length co20) y297) := ⟨(by rw [hw]; exact (by exact Kd.R_mono (Kd.R_far (p := ⟨gb293, 3, none⟩) (Kd.R_types HO299.out BK293.out (by decide)) (fun _ hk => hk.2) (.slice Ao20 y297.length co20)) (fun _ hk => trivial)))⟩; have n3_ : Aside0 (w22.heap[gb289]? = some (.cells #[u290000] 69 (0, 0))) := ⟨(by rw [hw]; exact bx)⟩; have n4_ : Aside0 (w22.heap[gb293]? = some (.cells #[.int .i64 ((rd_T92 ((rd_T69 l0 x4_1).f0) x6_2).f0), .int .i64 ((rd_T92 ((rd_T69 l0 x4_1).f0) x6_2).f1), .string ((rd_T92 ((rd_T69 l0 x4_1).f0) x6_2).f2), .slice Ao20 y297.length co20] 92 (0, 0))) := ⟨(by rw [hw]; exact bx)⟩; have n5_ : Aside0 (Below w.heap.size w w22) := ⟨(by rw [hw]; exact bw)⟩; clear hw; clear HO_3; clear HO_290000; clear HO299; clear BK289; clear BK293; clear HB; have HO_3 := n0_; have HO_290000 := n1_; have HO299 := n2_; have BK289 := n3_; have BK293 := n4_; have HB := n5_; clear n0_ n1_ n2_ n3_ n4_ n5_; have z23 := bc1 BK289.out; have z24 := bc4 BK293.out) | ((with_reducible refine gate_builtin (b := .append) (xs := #[.tmp 40, .tmp 42]) rfl ?_); at_builtin; refine Kd.S_append k92 (w0 := w) w.heap.size rfl (.tmp 40) (.tmp 42) 67 92 (.agg #[(.int .i64 0), (.int .i64 0), (.string ⟨#[]⟩), (.slice none 0 0)]) 56 rfl Try.underlying67 info92 rfl (by decide) (by omega) u290000 x290000_2 (⟨(rd_T92 ((rd_T69 l0 x4_1).f0) x6_2).f0, (rd_T92 ((rd_T69 l0 x4_1).f0) x6_2).f1, (rd_T92 ((rd_T69 l0 x4_1).f0) x6_2).f2, y297⟩ : S92) [.int .i64 ((rd_T92 ((rd_T69 l0 x4_1).f0) x6_2).f0), .int .i64 ((rd_T92 ((rd_T69 l0 x4_1).f0) x6_2).f1), .string ((rd_T92 ((rd_T69 l0 x4_1).f0) x6_2).f2), .slice Ao20 y297.length co20] (fun k_ => k_ ≠ gb293) (fun k_ => some k_ = (.slice Ao20 y297.length co20 : Value).ownBlock) rfl rfl ?aP (fun k_ hk_ => ((Kd.R_mono (ok' := fun k_ => ((fun k_ => k_ ≠ gb293)) k_ ∧ some k_ ≠ (u290000 : Value).ownBlock) (Kd.R_types (Kd.R_apart' (HO299.out) (Kd.S_typed HO_290000.out) (by decide)) BK293.out (by decide)) (fun k_ hk => ⟨hk.2, hk.1.2⟩))).1 k_ hk_.symm) ?aF ?aO ?aB ?aS ?aL ?_; (case aP => exact k92_mkM _ _ _ (⟨(rd_T92 ((rd_T69 l0 x4_1).f0) x6_2).f0, (rd_T92 ((rd_T69 l0 x4_1).f0) x6_2).f1, (rd_T92 ((rd_T69 l0 x4_1).f0) x6_2).f2, y297⟩ : S92) (Kd.R_mono (Kd.R_tight rfl (Kd.R_mono (ok' := fun k_ => ((fun k_ => k_ ≠ gb293)) k_ ∧ some k_ ≠ (u290000 : Value).ownBlock) (Kd.R_types (Kd.R_apart' (HO299.out) (Kd.S_typed HO_290000.out) (by decide)) BK293.out (by decide)) (fun k_ hk => ⟨hk.2, hk.1.2⟩))) (fun _ h_ => h_))); (case aB => exact bw); (case aF => exact (fun k_ hk => Kd.freshB (g := gb293) (o := .cells #[.int .i64 ((rd_T92 ((rd_T69 l0 x4_1).f0) x6_2).f0), .int .i64 ((rd_T92 ((rd_T69 l0 x4_1).f0) x6_2).f1), .string ((rd_T92 ((rd_T69 l0 x4_1).f0) x6_2).f2), .slice Ao20 y297.length co20] 92 (0, 0)) bx k_ hk)); (case aO => exact (by exact Kd.S_mono HO_290000.out (fun k_ hk => ⟨hk.2, fun e_ => hk.1 e_⟩))); (case aS => exact (below_size bw)); (case aL => have := LMc12.out; omega); intro v301 w25 ho hb hg hat; rw [← Ny300.out] at ho; have HO302 := am (ho); replace HO_3 := am (Kd.R_after (ok := (fun k_ => some k_ ≠ (.slice Ao20 y297.length co20 : Value).ownBlock ∧ k_ ≠ gb289 ∧ k_ ≠ gb293)) (by exact Kd.R_mono HO_3.out (fun _ hk => ⟨⟨hk.2.1, ⟨hk.2.2.1, hk.2.2.2⟩⟩, hk.1⟩)) hg hat); replace BK289 := am (blk_grown (g := gb289) (o := .cells #[u290000] 69 (0, 0)) bx hg (Kd.S_ne HO_290000.out BK289.out (by decide))); replace BK293 := am (blk_grown (g := gb293) (o := .cells #[.int .i64 ((rd_T92 ((rd_T69 l0 x4_1).f0) x6_2).f0), .int .i64 ((rd_T92 ((rd_T69 l0 x4_1).f0) x6_2).f1), .string ((rd_T92 ((rd_T69 l0 x4_1).f0) x6_2).f2), .slice Ao20 y297.length co20] 92 (0, 0)) bx hg (Kd.S_away HO_290000.out (fun _ hk => hk.2))); replace HB := am (hb); clear HO_290000 HO299; clear ho hb hg hat; obtain ⟨Ao26, co26, eo26⟩ := Kd.S_slice HO302.out; subst eo26; have z27 := bc1 BK289.out)); go_roundg k2
       case measure => have := HK1.out; have := HK2.out; omega
       case rel => exact ⟨(wrap64 (x6_2 + 1)), (y300), (.slice Ao26 y300.length co26), (by rfl), H', ⟨by have := HK1.out; have := HK2.out; omega⟩, ⟨by exact Kd.R_mono (Kd.R_far (p := ⟨gb289, 0, none⟩) (Kd.R_mono HO_3.out (fun k_ hk => (⟨hk, hk.1.2.1⟩ : _ ∧ k_ ≠ gb289))) (fun _ hk => hk.2) (.slice Ao26 y300.length co26)) (fun _ hk => ⟨hk.1.2, hk.1.1.2.1⟩)⟩, ⟨by exact Kd.S_mono (Kd.S_far (p := ⟨gb289, 0, none⟩) (Kd.S_types HO302.out BK289.out (by decide)) (fun _ hk => hk.2) (.slice Ao26 y300.length co26)) (fun _ hk => trivial)⟩, ⟨bx⟩, ⟨bw⟩⟩
      ·rcases cm H, H with ⟨⟨c28, H⟩, -⟩; have LMc28 := am c28; clear c28; obtain ⟨y303, hy303⟩ : ∃ y_ : List (S69), y_ = (x3_1 ++ [(⟨x290000_2⟩ : S69)]) := ⟨_, rfl⟩; rw [← hy303] at H; have Ny303 := am hy303; clear hy303; have H' := am H; clear H; obtain ⟨p290, q290, ad290, A290_0, c290_0, e290, hx290_0, HC290_0, HR290_0⟩ := aw_T69 HB HR0 x4_1 oa oa; cases e290; have z29 := bc1 BK289.out; obtain ⟨Ao31, co31, eo31⟩ := Kd.S_slice HO_290000.out; subst eo31; go_wp2_with (((with_reducible refine gate_builtin (b := .append) (xs := #[.tmp 45, .tmp 47]) rfl ?_); at_builtin; refine Kd.R_append k69 (w0 := w) w.heap.size rfl (.tmp 45) (.tmp 47) 64 69 (.agg #[(.slice none 0 0)]) 24 rfl Try.underlying64 info69 rfl (by decide) (by omega) u3 x3_1 (⟨x290000_2⟩ : S69) [.slice Ao31 x290000_2.length co31] (fun k_ => k_ ≠ gb289) (fun k_ => ((fun k_ => k_ ≠ gb289)) k_ ∧ some k_ ≠ (u3 : Value).ownBlock) rfl rfl ?aP (fun _ hk => hk) ?aF ?aO ?aB ?aS ?aL ?_; (case aP => exact k69_mkM _ _ _ (⟨x290000_2⟩ : S69) (Kd.R_mono (Kd.R_types (Kd.R_apart' ((Kd.S_R HO_290000.out)) (Kd.R_typed HO_3.out) (by decide)) BK289.out (by decide)) (fun k_ hk => ⟨hk.2, hk.1.2⟩))); (case aB => exact bw); (case aF => exact (fun k_ hk => Kd.freshB (g := gb289) (o := .cells #[.slice Ao31 x290000_2.length co31] 69 (0, 0)) bx k_ hk)); (case aO => exact (by exact Kd.R_mono HO_3.out (fun _ hk => hk.2))); (case aS => exact (below_size bw)); (case aL => have := LMc28.out; omega); intro v304 w30 ho hb hg hat; rw [← Ny303.out] at ho; have HO305 := am (ho); replace BK289 := am (blk_grown (g := gb289) (o := .cells #[.slice Ao31 x290000_2.length co31] 69 (0, 0)) bx hg (Kd.R_away HO_3.out (fun _ hk => hk.2))); replace HB := am (hb); clear HO_3 HO_290000; clear ho hb hg hat)); go_roundg k2
       case measure => have := HK1.out; have := HK2.out; omega
       case rel => exact ⟨(y303), (wrap64 (x4_1 + 1)), (by rfl), H', ⟨by have := HK1.out; have := HK2.out; omega⟩, ⟨by exact Kd.R_mono HO305.out (fun _ hk => trivial)⟩, HB⟩
   ·obtain rfl := si H; go_wp2; go_ret; exact ⟨_, by rfl, by exact HO_3.out, HB.out⟩
theorem infRule : (Try.prog.info? 33).map (fun i => (i.zero, i.size, i.bytes)) = some (some (.agg #[(.string ⟨#[]⟩), (.slice none 0 0), (.slice none 0 0)]), 3, 64) := by kernel_rfl
theorem infAlt : (Try.prog.info? 63).map (fun i => (i.zero, i.size, i.bytes)) = some (some (.agg #[(.slice none 0 0)]), 1, 24) := by kernel_rfl
theorem infSym : (Try.prog.info? 66).map (fun i => (i.zero, i.size, i.bytes)) = some (some (.agg #[(.int .i64 0), (.string ⟨#[]⟩), (.slice none 0 0), (.string ⟨#[]⟩)]), 4, 64) := by kernel_rfl
theorem infStr : (Try.prog.info? 9).map (fun i => (i.zero, i.size, i.bytes)) = some (some (.string ⟨#[]⟩), 1, 16) := by kernel_rfl
def sliceS {α : Type} (e : Nat) (d : Kd α) : Kd (List α) where
 sz := 1
 E := e :: d.E
 K := (Kd.slice e d).K
 M := fun w base ok xs cs => ∃ v, cs = [v] ∧ Kd.S d e w base ok v xs
 K_len := (Kd.slice e d).K_len
 K_one := (Kd.slice e d).K_one
 K_below := (Kd.slice e d).K_below
 K_of_M := by
  rintro w base ok x cs ⟨v, rfl, h⟩; obtain ⟨A, c, rfl, hl, hr⟩ := Kd.S_reads h; exact ⟨A, c, rfl, hl, hr⟩
 M_mono := by
  rintro w base ok ok' x cs hok ⟨v, rfl, h⟩; exact ⟨v, rfl, Kd.S_mono h hok⟩
 M_bound := by
  rintro w base ok x cs ⟨v, rfl, h⟩; exact ⟨v, rfl, Kd.S_bound h⟩
 M_move := by
  rintro w w1 base ok x cs hm ⟨v, rfl, h⟩; exact ⟨v, rfl, Kd.S_move h hm⟩
 M_lower := by
  rintro w base base' ok x cs hb ⟨v, rfl, h⟩; exact ⟨v, rfl, Kd.S_lower h hb⟩
theorem R_to {α : Type} {d d' : Kd α} (hs : d.sz = d'.sz) (hM : ∀ w base ok x cs, d.M w base ok x cs → d'.M w base ok x cs) {e : Nat} {w : World} {base : Nat} {ok : Nat → Prop} {v : Value} {xs : List α} (h : d.R e w base ok v xs) : d'.R e w base ok v xs := by
 obtain ⟨h0, inner, ho, hr⟩ := h; refine ⟨h0, inner, hs ▸ ho, by rw [← hs]; exact hr.1, fun j x hj => ?_⟩; rw [← hs]; exact hM _ _ _ _ _ (hr.2 j x hj)
def kA : Kd S63 := Kd.iso (Kd.slice 66 k66) (fun x : S63 => x.f0)
def kRu : Kd S33 := Kd.iso (Kd.pair Kd.string (Kd.pair (Kd.slice 9 Kd.string) (sliceS 63 kA))) (fun x : S33 => (x.f0, x.f1, x.f2))
theorem kA_open {w : World} {base : Nat} {ok : Nat → Prop} {x : S63} {cs : List Value} (h : kA.M w base ok x cs) : ∃ v, cs = [v] ∧ Kd.R k66 66 w base ok v x.f0 := h
theorem kA_mk (w : World) (base : Nat) (ok : Nat → Prop) (x : S63) {v : Value} (g : Kd.R k66 66 w base ok v x.f0) : kA.M w base ok x [v] := ⟨v, rfl, g⟩
theorem kRu_open {w : World} {base : Nat} {ok : Nat → Prop} {x : S33} {cs : List Value} (h : kRu.M w base ok x cs) : ∃ v1 v2, cs = [.string x.f0, v1, v2] ∧ Kd.R Kd.string 9 w base ok v1 x.f1 ∧ Kd.S kA 63 w base ok v2 x.f2 := by
 obtain ⟨_, _, rfl, rfl, ⟨_, _, rfl, ⟨v1, rfl, g1⟩, ⟨v2, rfl, g2⟩⟩⟩ := h; exact ⟨v1, v2, rfl, g1, g2⟩
theorem kRu_mk (w : World) (base : Nat) (ok : Nat → Prop) (x : S33) {v1 v2 : Value} (g1 : Kd.R Kd.string 9 w base ok v1 x.f1) (g2 : Kd.S kA 63 w base ok v2 x.f2) : kRu.M w base ok x [.string x.f0, v1, v2] :=
 ⟨[.string x.f0], [v1, v2], rfl, rfl, ⟨[v1], [v2], rfl, ⟨v1, rfl, g1⟩, ⟨v2, rfl, g2⟩⟩⟩
theorem kA_M {w : World} {base : Nat} {ok : Nat → Prop} {x : S63} {cs : List Value} (h : kA.M w base ok x cs) : k63.M w base ok x cs := h
theorem kRu_M {w : World} {base : Nat} {ok : Nat → Prop} {x : S33} {cs : List Value} (h : kRu.M w base ok x cs) : k33.M w base ok x cs := by
 obtain ⟨v1, v2, rfl, g1, g2⟩ := kRu_open h; exact k33_mkM w base ok x g1 (R_to (d := kA) (d' := k63) rfl (fun _ _ _ _ _ h => kA_M h) (Kd.S_R g2))
theorem kRu_R {w : World} {base : Nat} {ok : Nat → Prop} {v : Value} {xs : List S33} (h : Kd.S kRu 33 w base ok v xs) : Kd.R k33 33 w base ok v xs := R_to (d := kRu) (d' := k33) rfl (fun _ _ _ _ _ h => kRu_M h) (Kd.S_R h)
def cpSyms : Nat → List S66 → Int → List S66 → Option (List S66)
 | 0, _, _, _ => none
 | k + 1, l, i, out => if i < (l.length : Int) then (if 0 ≤ i then (if out.length < 2199023255552 then ((spec_l04Copies.f k (rd_T66 l i).f2).bind fun t => cpSyms k l (wrap64 (i + 1)) (out ++ [⟨(rd_T66 l i).f0, (rd_T66 l i).f1, t, (rd_T66 l i).f3⟩])) else none) else none) else some out
def cpAlts : Nat → List S63 → Int → List S63 → Option (List S63)
 | 0, _, _, _ => none
 | k + 1, l, i, out => if i < (l.length : Int) then (if 0 ≤ i then (if out.length < 5864062014805 then ((cpSyms k (rd_T63 l i).f0 0 []).bind fun t => cpAlts k l (wrap64 (i + 1)) (out ++ [⟨t⟩])) else none) else none) else some out
def cpRules : Nat → List S33 → Int → List S33 → Option (List S33)
 | 0, _, _, _ => none
 | k + 1, l, i, out => if i < (l.length : Int) then (if 0 ≤ i then (if (rd_T33 l i).f1.length < 8796093022208 ∧ out.length < 2199023255552 then ((cpAlts k (rd_T33 l i).f2 0 []).bind fun t => cpRules k l (wrap64 (i + 1)) (out ++ [⟨(rd_T33 l i).f0, (rd_T33 l i).f1, t⟩])) else none) else none) else some out
def spec_l06Copy.f (k : Nat) (l0_0 : List S33) : Option (List S33) := cpRules k l0_0 0 []
theorem cpSyms_mono (k : Nat) : ∀ l i out, LeO (cpSyms k l i out) (cpSyms (k + 1) l i out) := by
 induction k with
 | zero => intro l i out r h; simp [cpSyms] at h
 | succ k ih =>
  intro l i out; rw [cpSyms, cpSyms]; repeat' with_reducible first | exact ih _ _ _ | exact spec_l04Copies.mono _ _ | exact LeO.refl _ | refine LeO.ite ?_ ?_ | refine LeO.bind ?_ (fun _ => ?_)
theorem cpAlts_mono (k : Nat) : ∀ l i out, LeO (cpAlts k l i out) (cpAlts (k + 1) l i out) := by
 induction k with
 | zero => intro l i out r h; simp [cpAlts] at h
 | succ k ih =>
  intro l i out; rw [cpAlts, cpAlts]; repeat' with_reducible first | exact ih _ _ _ | exact cpSyms_mono _ _ _ _ | exact LeO.refl _ | refine LeO.ite ?_ ?_ | refine LeO.bind ?_ (fun _ => ?_)
theorem cpRules_mono (k : Nat) : ∀ l i out, LeO (cpRules k l i out) (cpRules (k + 1) l i out) := by
 induction k with
 | zero => intro l i out r h; simp [cpRules] at h
 | succ k ih =>
  intro l i out; rw [cpRules, cpRules]; repeat' with_reducible first | exact ih _ _ _ | exact cpAlts_mono _ _ _ _ | exact LeO.refl _ | refine LeO.ite ?_ ?_ | refine LeO.bind ?_ (fun _ => ?_)
theorem spec_l06Copy.mono : ∀ a0 k, LeO (spec_l06Copy.f k a0) (spec_l06Copy.f (k + 1) a0) := fun a0 k => cpRules_mono k a0 0 []
structure Cp (w wl : World) (gb gr go : Nat) (A0 : Option Addr) (c0 : Nat) (l0 : List S33) (rv : Value) (out : List S33) : Prop where
 bb : wl.heap[gb]? = some (.cells #[.slice A0 l0.length c0] 26 (0, 0))
 br : wl.heap[gr]? = some (.cells #[.slice none 0 0] 26 (0, 0))
 bo : wl.heap[go]? = some (.cells #[rv] 26 (0, 0))
 bel : Below w.heap.size w wl
 ge : w.heap.size ≤ gr ∧ w.heap.size ≤ go
 ne : gb ≠ go ∧ gr ≠ go
 row : Kd.S kRu 33 wl w.heap.size (fun _ => True) rv out
structure Cp1 (w W0 wl : World) (gb gr go : Nat) (A0 : Option Addr) (c0 : Nat) (l0 : List S33) (rv : Value) (out : List S33) (g5 : Nat) (nm : ByteArray) (pv : Value) (ps : List ByteArray) (av : Value) (alts : List S63) : Prop where
 cp : Cp w W0 gb gr go A0 c0 l0 rv out
 bl : Below W0.heap.size W0 wl
 b5 : wl.heap[g5]? = some (.cells #[.string nm, pv, av] 33 (0, 0))
 g5n : W0.heap.size ≤ g5
 prow : Kd.R Kd.string 9 wl W0.heap.size (fun _ => True) pv ps
 arow : Kd.S kA 63 wl W0.heap.size (fun _ => True) av alts
structure Cp2 (w W0 W1 wl : World) (gb gr go : Nat) (A0 : Option Addr) (c0 : Nat) (l0 : List S33) (rv : Value) (out : List S33) (g5 : Nat) (nm : ByteArray) (pv : Value) (ps : List ByteArray) (av : Value) (alts : List S63) (g7 : Nat) (sv : Value) (syms : List S66) : Prop where
 c1 : Cp1 w W0 W1 gb gr go A0 c0 l0 rv out g5 nm pv ps av alts
 bl : Below W1.heap.size W1 wl
 b7 : wl.heap[g7]? = some (.cells #[sv] 63 (0, 0))
 g7n : W1.heap.size ≤ g7
 srow : Kd.R k66 66 wl W1.heap.size (fun _ => True) sv syms
section
variable {w W0 W1 wl w2 : World} {gb gr go : Nat} {A0 : Option Addr} {c0 : Nat} {l0 : List S33} {rv rv2 : Value} {out out2 : List S33} {g5 : Nat} {nm : ByteArray} {pv : Value} {ps : List ByteArray} {av av2 : Value} {alts alts2 : List S63} {g7 : Nat} {sv sv2 : Value} {syms syms2 : List S66}
theorem Cp.below (h : Cp w wl gb gr go A0 c0 l0 rv out) (hb : Below wl.heap.size wl w2) : Cp w w2 gb gr go A0 c0 l0 rv out :=
 ⟨(hb.block gb (blk_lt h.bb)).trans h.bb, (hb.block gr (blk_lt h.br)).trans h.br, (hb.block go (blk_lt h.bo)).trans h.bo, h.bel.trans (hb.mono h.bel.size), h.ge, h.ne, Kd.S_below h.row hb⟩
theorem Cp1.below (h : Cp1 w W0 wl gb gr go A0 c0 l0 rv out g5 nm pv ps av alts) (hb : Below wl.heap.size wl w2) : Cp1 w W0 w2 gb gr go A0 c0 l0 rv out g5 nm pv ps av alts :=
 ⟨h.cp, h.bl.trans (hb.mono h.bl.size), (hb.block g5 (blk_lt h.b5)).trans h.b5, h.g5n, Kd.R_below h.prow hb, Kd.S_below h.arow hb⟩
theorem Cp2.below (h : Cp2 w W0 W1 wl gb gr go A0 c0 l0 rv out g5 nm pv ps av alts g7 sv syms) (hb : Below wl.heap.size wl w2) : Cp2 w W0 W1 w2 gb gr go A0 c0 l0 rv out g5 nm pv ps av alts g7 sv syms :=
 ⟨h.c1, h.bl.trans (hb.mono h.bl.size), (hb.block g7 (blk_lt h.b7)).trans h.b7, h.g7n, Kd.R_below h.srow hb⟩
theorem Cp2.one (h : Cp2 w W0 W1 wl gb gr go A0 c0 l0 rv out g5 nm pv ps av alts g7 sv syms) : Cp1 w W0 wl gb gr go A0 c0 l0 rv out g5 nm pv ps av alts := h.c1.below h.bl
theorem Cp1.nul (h : Cp1 w W0 wl gb gr go A0 c0 l0 rv out g5 nm pv ps av alts) : Cp w wl gb gr go A0 c0 l0 rv out := h.cp.below h.bl
theorem Cp2.put (h : Cp2 w W0 W1 wl gb gr go A0 c0 l0 rv out g5 nm pv ps av alts g7 sv syms) (row : Kd.R k66 66 w2 W1.heap.size (fun _ => True) sv2 syms2) (hb : Below W1.heap.size wl w2) (hg : wl.grownBy w2 sv.ownBlock) : Cp2 w W0 W1 (w2.setCell ⟨g7, 0, none⟩ sv2) gb gr go A0 c0 l0 rv out g5 nm pv ps av alts g7 sv2 syms2 := by
 have hb7 := blk_grown h.b7 hg (Kd.R_ne h.srow h.b7 (by decide)); exact ⟨h.c1, below_set (h.bl.trans hb) h.g7n, blk_put hb7 0 sv2 rfl, h.g7n, Kd.R_mono (Kd.R_far (p := ⟨g7, 0, none⟩) (Kd.R_types row hb7 (by decide)) (fun k hk => hk.2) sv2) (fun k hk => hk.1)⟩
theorem Cp1.put (h : Cp1 w W0 wl gb gr go A0 c0 l0 rv out g5 nm pv ps av alts) (row : Kd.S kA 63 w2 W0.heap.size (fun _ => True) av2 alts2) (hb : Below W0.heap.size wl w2) (hg : wl.grownBy w2 av.ownBlock) : Cp1 w W0 (w2.setCell ⟨g5, 2, none⟩ av2) gb gr go A0 c0 l0 rv out g5 nm pv ps av2 alts2 := by
 have hb5 := blk_grown h.b5 hg (Kd.S_ne h.arow h.b5 (by decide)); exact ⟨h.cp, below_set (h.bl.trans hb) h.g5n, blk_put hb5 2 av2 rfl, h.g5n, Kd.R_mono (Kd.R_far (p := ⟨g5, 2, none⟩) (Kd.R_types (Kd.R_over' h.prow (Kd.S_typed h.arow) (by decide) hg) hb5 (by decide)) (fun k hk => hk.2) av2) (fun k hk => hk.1), Kd.S_set row hb5 (by decide) 2 av2⟩
theorem Cp.put (h : Cp w wl gb gr go A0 c0 l0 rv out) (row : Kd.S kRu 33 w2 w.heap.size (fun _ => True) rv2 out2) (hb : Below w.heap.size wl w2) (hg : wl.grownBy w2 rv.ownBlock) : Cp w (w2.setCell ⟨go, 0, none⟩ rv2) gb gr go A0 c0 l0 rv2 out2 := by
 have hbo := blk_grown h.bo hg (Kd.S_ne h.row h.bo (by decide)); have hbb := blk_grown h.bb hg (Kd.S_ne h.row h.bb (by decide)); have hbr := blk_grown h.br hg (Kd.S_ne h.row h.br (by decide)); exact ⟨blk_far hbb h.ne.1 _, blk_far hbr h.ne.2 _, blk_put hbo 0 rv2 rfl, below_set (h.bel.trans hb) h.ge.2, h.ge, h.ne, Kd.S_set row hbo (by decide) 0 rv2⟩
theorem Cp2.app (h : Cp2 w W0 W1 wl gb gr go A0 c0 l0 rv out g5 nm pv ps av alts g7 sv syms) : kA.M wl W0.heap.size (fun k => W1.heap.size ≤ k) ⟨syms⟩ [sv] ∧ (∀ k, W1.heap.size ≤ k → True ∧ some k ≠ av.ownBlock) ∧ Kd.S kA 63 wl W0.heap.size (fun k => True ∧ ¬ W1.heap.size ≤ k) av alts :=
 ⟨kA_mk _ _ _ ⟨syms⟩ (Kd.R_mono (Kd.R_lower (Kd.R_bound h.srow) h.c1.bl.size) (fun k hk => hk.2.1)), fun k hk => ⟨trivial, fun e => by have := Kd.S_lt h.c1.arow k e.symm; omega⟩, Kd.S_below (Kd.S_mono (Kd.S_bound h.c1.arow) (fun k hk => ⟨trivial, by have := hk.2.2.1; omega⟩)) h.bl⟩
theorem Cp1.app (h : Cp1 w W0 wl gb gr go A0 c0 l0 rv out g5 nm pv ps av alts) : kRu.M wl w.heap.size (fun k => W0.heap.size ≤ k) ⟨nm, ps, alts⟩ [.string nm, pv, av] ∧ (∀ k, W0.heap.size ≤ k → True ∧ some k ≠ rv.ownBlock) ∧ Kd.S kRu 33 wl w.heap.size (fun k => True ∧ ¬ W0.heap.size ≤ k) rv out :=
 ⟨kRu_mk _ _ _ ⟨nm, ps, alts⟩ (Kd.R_mono (Kd.R_lower (Kd.R_bound h.prow) h.cp.bel.size) (fun k hk => hk.2.1)) (Kd.S_mono (Kd.S_lower (Kd.S_bound h.arow) h.cp.bel.size) (fun k hk => hk.2.1)), fun k hk => ⟨trivial, fun e => by have := Kd.S_lt h.cp.row k e.symm; omega⟩, Kd.S_below (Kd.S_mono (Kd.S_bound h.cp.row) (fun k hk => ⟨trivial, by have := hk.2.2.1; omega⟩)) h.bl⟩
end
set_option maxHeartbeats 16000000 in
theorem copy_calls (k : Nat) (A0 : Option Addr) (c0 : Nat) (l0 : List S33) (r : List S33) (w : World) (hr0 : Kd.C k33 w A0 l0.length l0) (hc0 : l0.length ≤ c0) (h : spec_l06Copy.f k l0 = some r) :
  Calls Try.prog 29 #[.agg #[.slice A0 l0.length c0]] w fun e w' => ∃ v : Value, e = .returned (.agg #[v]) ∧ Kd.S kRu 33 w' w.heap.size (fun _ => True) v r ∧ Below w.heap.size w w' := by
 have HC0 := am hr0; have HL0 := am hc0; have HH := am (show cpRules k l0 0 [] = some r from h); clear hr0 hc0 h; go_enter Try.func29, Try.ntmps29; go_upto_region 2 with fail
 have HA := am (show Cp w (((w.alloc (.cells #[.slice A0 l0.length c0] 26)).alloc (.cells #[.slice none 0 0] 26)).alloc (.cells #[.slice none 0 0] 26)) w.heap.size (w.heap.size + 1) (w.heap.size + 1 + 1) A0 c0 l0 (.slice none 0 0) [] from
  ⟨blk_alloc (blk_alloc (heap_alloc_new _ _) _) _, by simpa using blk_alloc (heap_alloc_new (w.alloc (.cells #[.slice A0 l0.length c0] 26)) (.cells #[.slice none 0 0] 26)) (.cells #[.slice none 0 0] 26), by simpa using heap_alloc_new ((w.alloc (.cells #[.slice A0 l0.length c0] 26)).alloc (.cells #[.slice none 0 0] 26)) (.cells #[.slice none 0 0] 26), below_alloc (below_alloc (below_alloc (Below.refl _ _) _) _) _, by omega, by omega, Kd.S_nil _ _ _ _ _⟩)
 generalize (((w.alloc (.cells #[.slice A0 l0.length c0] 26)).alloc (.cells #[.slice none 0 0] 26)).alloc (.cells #[.slice none 0 0] 26)) = w3 at *; obtain ⟨go, hgo⟩ : ∃ go, go = w.heap.size + 1 + 1 := ⟨_, rfl⟩; rw [← hgo] at HA ⊢; clear hgo; obtain ⟨gr, hgr⟩ : ∃ gr, gr = w.heap.size + 1 := ⟨_, rfl⟩; rw [← hgr] at HA ⊢; clear hgr; obtain ⟨gb, hgb⟩ : ∃ gb, gb = w.heap.size := ⟨_, rfl⟩; have HA2 := am (show Cp w w3 gb gr go A0 c0 l0 (.slice none 0 0) [] from by rw [hgb]; exact HA.out); rw [← hgb]; clear hgb HA; go_wp2; go_loopg [4] k (fun kq v4 w' => ∃ (i : Int) (out : List S33) (rv : Value), v4 = .int .i64 i ∧ Aside0 (cpRules kq l0 i out = some r) ∧ Aside0 (Cp w w' gb gr go A0 c0 l0 rv out))
 case atStart => exact ⟨0, [], _, rfl, HH, HA2⟩
 case round =>
 clear HH HA2; obtain ⟨i, out, rv, rfl, HA, HC⟩ := hrel
 cases gk with
 | zero => exact absurd HA.out (by simp [cpRules])
 | succ kq =>
 have H := HA.out; clear HA; simp only [cpRules] at H; have hb0 : wr.cell? ⟨gb, 0, none⟩ = some (.slice A0 l0.length c0) := (blk_cell HC.out.bb 0).trans rfl; obtain ⟨Av, cv, ev⟩ := Kd.S_slice HC.out.row; subst ev; by_cases d0 : i < (l0.length : Int)
 case neg =>
  rw [if_neg d0] at H; obtain rfl := si H; have d0b : decide (i < (l0.length : Int)) = false := decide_eq_false d0; have ho0 : wr.cell? ⟨go, 0, none⟩ = some (.slice Av out.length cv) := (blk_cell HC.out.bo 0).trans rfl; have hr0 : wr.cell? ⟨gr, 0, none⟩ = some (.slice none 0 0) := (blk_cell HC.out.br 0).trans rfl; have hrf := blk_frozen HC.out.br 0; clear d0 H; go_wp2; refine bodyPost_ret (results_cell_row rfl _ _ gr 26 #[.slice Av out.length cv] (0, 0) _ rfl (blk_put HC.out.br 0 _ rfl) Try.underlying26 rfl (by kernel_rfl)) rfl ?_; exact ⟨_, rfl, Kd.S_set HC.out.row HC.out.br (by decide) 0 _, below_set HC.out.bel HC.out.ge.1⟩
 rw [if_pos d0] at H; by_cases d1 : 0 ≤ i
 case neg => rw [if_neg d1] at H; exact absurd H (by simp)
 rw [if_pos d1] at H; by_cases hlim : (rd_T33 l0 i).f1.length < 8796093022208 ∧ out.length < 2199023255552
 case neg => rw [if_neg hlim] at H; exact absurd H (by simp)
 rw [if_pos hlim] at H; obtain ⟨ta, hta, H⟩ := Option.bind_eq_some_iff.mp H; have HT := am hta; have HQ := am H; have HLim := am hlim; obtain ⟨ad, A1, c1, A2, c2, e0, hx0, hx1, hx2, hl1, hi1, hl2, hi2⟩ := at_T33 HC0.out i d1 d0; subst e0; have HX2 := am hx2; have HPC := am (Kd.C_below hi1 HC.out.bel); have HI2 := am hi2; replace hx0 := hbc HC.out.bel hx0; replace hx1 := hbc HC.out.bel hx1; have HSS := am (show ∀ w', Below wr.heap.size wr w' → w'.cell? ⟨gb, 0, none⟩ = some (.slice (some ad) l0.length c0) ∧ w'.cell? (ad.add (i.toNat * 3)) = some (.string ((rd_T33 l0 i).f0)) ∧ w'.cell? ⟨(ad.add (i.toNat * 3)).block, (ad.add (i.toNat * 3)).off + 1, none⟩ = some (.slice A1 (rd_T33 l0 i).f1.length c1) from fun w' hb => ⟨hbc hb hb0, hbc hb hx0, hbc hb hx1⟩); have d0b : decide (i < (l0.length : Int)) = true := decide_eq_true d0; have q0 := eq_true d0; have q1 := eq_true d1; clear d0 d1 hlim hta H hl1 hi1 hl2 hi2 hx2; go_upto_region 5 with fail; go_cut [5] (fun v5 wv => ∃ (g5 : Nat) (Ap : Option Addr) (cp : Nat), v5 = .pointer (some ⟨g5, 0, none⟩) ∧ Aside0 (Below wr.heap.size wr wv) ∧ Aside0 (wv.heap[g5]? = some (.cells #[.string ((rd_T33 l0 i).f0), .slice Ap (rd_T33 l0 i).f1.length cp, .slice none 0 0] 33 (0, 0))) ∧ Aside0 (wr.heap.size ≤ g5) ∧ Aside0 (Kd.R Kd.string 9 wv wr.heap.size (fun k => wr.heap.size ≤ k) (.slice Ap (rd_T33 l0 i).f1.length cp) (rd_T33 l0 i).f1))
 case first =>
  have HBc := am (show Below wr.heap.size wr wr.drew from below_drew (Below.refl _ _)); refine start_ (n := 17) (S := fun w' => w'.cell? ⟨gb, 0, none⟩ = some (.slice (some ad) l0.length c0) ∧ w'.cell? (ad.add (i.toNat * 3)) = some (.string ((rd_T33 l0 i).f0)) ∧ w'.cell? ⟨(ad.add (i.toNat * 3)).block, (ad.add (i.toNat * 3)).off + 1, none⟩ = some (.slice A1 (rd_T33 l0 i).f1.length c1)) (ds := [16]) (bmk 17 0) (by kernel_rfl) rfl rfl ⟨(HSS.out _ HBc.out).1, (HSS.out _ HBc.out).2.1, (HSS.out _ HBc.out).2.2⟩ (fun hHeld => ?_); refine px_ 0 (some 18) (bmk 17 1) ?_; refine px_ 2 (some 20) (bmk 17 5) ?_; refine px_ 7 (some 25) (bmk 17 133) ?_; refine px_ 9 (some 27) (bmk 17 645) ?_; refine tx_ 1 (some 19) (bmk 17 647) hHeld ?_; refine px_ 3 (some 21) (bmk 17 655) ?_; refine px_ 4 (some 22) (bmk 17 671) ?_; refine tx_ 5 (some 23) (bmk 17 703) hHeld ?_; refine tx_ 8 (some 26) (bmk 17 959) hHeld ?_; refine px_ 10 (some 28) (bmk 17 1983) ?_; refine px_ 11 (some 29) (bmk 17 4031) ?_; refine tx_ 12 (some 30) (bmk 17 8127) hHeld ?_; refine join_ (σ := Option Addr × Nat × Option Addr × Nat × Nat) 1 (bmk 17 65535) (fun s_ => [(24, .slice s_.1 ([] : List ByteArray).length s_.2.1), (31, .slice s_.2.2.1 (rd_T33 l0 i).f1.length s_.2.2.2.1), (5, .pointer (some ⟨s_.2.2.2.2, 0, none⟩)), (32, .agg #[.string ((rd_T33 l0 i).f0), .slice s_.2.2.1 (rd_T33 l0 i).f1.length s_.2.2.2.1, .slice none 0 0])]) (fun s_ w' => (w'.cell? ⟨gb, 0, none⟩ = some (.slice (some ad) l0.length c0) ∧ w'.cell? (ad.add (i.toNat * 3)) = some (.string ((rd_T33 l0 i).f0)) ∧ w'.cell? ⟨(ad.add (i.toNat * 3)).block, (ad.add (i.toNat * 3)).off + 1, none⟩ = some (.slice A1 (rd_T33 l0 i).f1.length c1)) ∧ Kd.R Kd.string 9 w' wr.heap.size (fun k => wr.heap.size ≤ k) (.slice s_.2.2.1 (rd_T33 l0 i).f1.length s_.2.2.2.1) (rd_T33 l0 i).f1 ∧ w'.heap[s_.2.2.2.2]? = some (.cells #[.string (⟨#[]⟩ : ByteArray), .slice none 0 0, .slice none 0 0] 33 (0, 0)) ∧ wr.heap.size ≤ s_.2.2.2.2 ∧ Below wr.heap.size wr w') ?_ ?_; rotate_left
  ·intro hCont; refine two_ (i := 6) (j := 15) (Ni := some 24) (Nj := some 5) (bmk 17 8191) #[true, true, true, true, true, true, false, true, true, true, true, true, true, false, false, true, false] rfl rfl rfl rfl (by kernel_rfl) (by decide) (by decide) (fun K hK => ?_) (fun K hK => ?_)
   ·skip
    refine Kd.R_lit_step Kd.string _ 9 ?hg (N := 24) ?hd (xs := ([] : List ByteArray)) (inner := []) (ok := fun k => wr.heap.size ≤ k) (okp := fun k => False) ?hr ?hp (fun _ hk => hk.elim) HBc.out.size (Below.refl _ _) (Nat.le_refl _) (by simp) ?_; (case hd => rfl); (case hg => rfl); (case hr => (go_simp; done)); (case hp => exact (Reps.none _ _)); intro v24 wA hl24 hbA _ hnew_; obtain ⟨A24, c24, e24⟩ := Kd.R_slice hl24; subst e24; have HL24 := am (Kd.R_lower hl24 HBc.out.size); replace HBc := am (HBc.out.trans (hbA.mono HBc.out.size)); clear hl24 hbA hnew_; refine hK.out _ _ ⟨(HSS.out _ HBc.out).1, (HSS.out _ HBc.out).2.1, (HSS.out _ HBc.out).2.2⟩ (fun hHeld => ?_); clear hK K; refine nn_ (some 24) ?_; refine two_ (i := 13) (j := 15) (Ni := some 31) (Nj := some 5) (bmk 17 16383) #[true, true, true, true, true, true, true, true, true, true, true, true, true, false, false, true, false] rfl rfl rfl rfl (by kernel_rfl) (by decide) (by decide) (fun K hK => ?_) (fun K hK => ?_)
    ·skip
     refine Kd.R_append_rows_step Kd.string (w0 := wr) wr.heap.size ?aW (.tmp 24) (.tmp 30) 30 9 (.string ⟨#[]⟩) 16 ?aH Try.underlying30 infStr rfl (by decide) (by decide) (.slice A24 ([] : List ByteArray).length c24) ([] : List ByteArray) (rd_T33 l0 i).f1 A1 (rd_T33 l0 i).f1.length c1 (fun k => wr.heap.size ≤ k) (fun _ => False) ?a1 ?a2 ?aO ?aR (fun _ _ h => h) (fun _ h => h.elim) ?aF ?aB ?aS ?aL ?_; (case aW => rfl); (case aH => rfl); (case a1 => rfl); (case a2 => rfl); (case aO => exact HL24.out); (case aR => exact Kd.C_below HPC.out HBc.out); (case aF => exact fun k hk => Nat.le_trans HBc.out.size hk); (case aB => exact HBc.out); (case aS => exact HBc.out.size); (case aL => (have := HLim.out.1; simp; omega)); intro vp wP hop hbp hgp hatp; rw [List.nil_append] at hop; obtain ⟨Ap, cp, ep⟩ := Kd.R_slice hop; subst ep; have HPP := am hop; replace HBc := am hbp; clear hop hbp hgp hatp HL24; refine hK.out _ _ ⟨(HSS.out _ HBc.out).1, (HSS.out _ HBc.out).2.1, (HSS.out _ HBc.out).2.2⟩ (fun hHeld => ?_); clear hK K; refine nn_ (some 31) ?_; refine px_ 14 (some 32) (bmk 17 32767) ?_; refine one_ (i := 15) (N := some 5) (bmk 17 65535) rfl rfl (by kernel_rfl) (by decide) (fun K hK => ?_); refine box_step ?hg (N := 5) ?hd (cs := #[.string (⟨#[]⟩ : ByteArray), .slice none 0 0, .slice none 0 0]) (t := 33) ?hr ?_; (case hd => rfl); (case hg => rfl); (case hr => (go_simp; done)); intro g5 hga wA hbox hbA; have HBX := am hbox; have HGA := am (show wr.heap.size ≤ g5 from by have := HBc.out.size; omega); replace HPP := am (Kd.R_below HPP.out hbA); replace HBc := am (HBc.out.trans (hbA.mono HBc.out.size)); clear hga hbox hbA; refine hK.out _ _ ⟨(HSS.out _ HBc.out).1, (HSS.out _ HBc.out).2.1, (HSS.out _ HBc.out).2.2⟩ (fun hHeld => ?_); clear hK K; refine nn_ (some 5) ?_; exact norm_ (by simp only [putAll, Act.put, List.setIfInBounds_toArray, List.set_cons_zero, List.set_cons_succ]) (hCont (A24, c24, Ap, cp, g5) _ ⟨hHeld, HPP.out, HBX.out, HGA.out, HBc.out⟩)
    ·skip
     refine box_step ?hg (N := 5) ?hd (cs := #[.string (⟨#[]⟩ : ByteArray), .slice none 0 0, .slice none 0 0]) (t := 33) ?hr ?_; (case hd => rfl); (case hg => rfl); (case hr => (go_simp; done)); intro g5 hga wA hbox hbA; have HBX := am hbox; have HGA := am (show wr.heap.size ≤ g5 from by have := HBc.out.size; omega); replace HL24 := am (Kd.R_below HL24.out hbA); replace HBc := am (HBc.out.trans (hbA.mono HBc.out.size)); clear hga hbox hbA; refine hK.out _ _ ⟨(HSS.out _ HBc.out).1, (HSS.out _ HBc.out).2.1, (HSS.out _ HBc.out).2.2⟩ (fun hHeld => ?_); clear hK K; refine nn_ (some 5) ?_; refine one_ (i := 13) (N := some 31) (bmk 17 49151) rfl rfl (by kernel_rfl) (by decide) (fun K hK => ?_); refine Kd.R_append_rows_step Kd.string (w0 := wr) wr.heap.size ?aW (.tmp 24) (.tmp 30) 30 9 (.string ⟨#[]⟩) 16 ?aH Try.underlying30 infStr rfl (by decide) (by decide) (.slice A24 ([] : List ByteArray).length c24) ([] : List ByteArray) (rd_T33 l0 i).f1 A1 (rd_T33 l0 i).f1.length c1 (fun k => wr.heap.size ≤ k) (fun _ => False) ?a1 ?a2 ?aO ?aR (fun _ _ h => h) (fun _ h => h.elim) ?aF ?aB ?aS ?aL ?_; (case aW => rfl); (case aH => rfl); (case a1 => rfl); (case a2 => rfl); (case aO => exact HL24.out); (case aR => exact Kd.C_below HPC.out HBc.out); (case aF => exact fun k hk => Nat.le_trans HBc.out.size hk); (case aB => exact HBc.out); (case aS => exact HBc.out.size); (case aL => (have := HLim.out.1; simp; omega)); intro vp wP hop hbp hgp hatp; rw [List.nil_append] at hop; obtain ⟨Ap, cp, ep⟩ := Kd.R_slice hop; subst ep; have HPP := am hop; replace HBX := am (blk_grown HBX.out hgp (Kd.R_ne HL24.out HBX.out (by decide))); replace HBc := am hbp; clear hop hbp hgp hatp HL24; refine hK.out _ _ ⟨(HSS.out _ HBc.out).1, (HSS.out _ HBc.out).2.1, (HSS.out _ HBc.out).2.2⟩ (fun hHeld => ?_); clear hK K; refine nn_ (some 31) ?_; refine px_ 14 (some 32) (bmk 17 65535) ?_; exact norm_ (by simp only [putAll, Act.put, List.setIfInBounds_toArray, List.set_cons_zero, List.set_cons_succ]) (hCont (A24, c24, Ap, cp, g5) _ ⟨hHeld, HPP.out, HBX.out, HGA.out, HBc.out⟩)
   ·skip
    refine box_step ?hg (N := 5) ?hd (cs := #[.string (⟨#[]⟩ : ByteArray), .slice none 0 0, .slice none 0 0]) (t := 33) ?hr ?_; (case hd => rfl); (case hg => rfl); (case hr => (go_simp; done)); intro g5 hga wA hbox hbA; have HBX := am hbox; have HGA := am (show wr.heap.size ≤ g5 from by have := HBc.out.size; omega); replace HBc := am (HBc.out.trans (hbA.mono HBc.out.size)); clear hga hbox hbA; refine hK.out _ _ ⟨(HSS.out _ HBc.out).1, (HSS.out _ HBc.out).2.1, (HSS.out _ HBc.out).2.2⟩ (fun hHeld => ?_); clear hK K; refine nn_ (some 5) ?_; refine one_ (i := 6) (N := some 24) (bmk 17 40959) rfl rfl (by kernel_rfl) (by decide) (fun K hK => ?_); refine Kd.R_lit_step Kd.string _ 9 ?hg (N := 24) ?hd (xs := ([] : List ByteArray)) (inner := []) (ok := fun k => wr.heap.size ≤ k) (okp := fun k => False) ?hr ?hp (fun _ hk => hk.elim) HBc.out.size (Below.refl _ _) (Nat.le_refl _) (by simp) ?_; (case hd => rfl); (case hg => rfl); (case hr => (go_simp; done)); (case hp => exact (Reps.none _ _)); intro v24 wA hl24 hbA _ hnew_; obtain ⟨A24, c24, e24⟩ := Kd.R_slice hl24; subst e24; have HL24 := am (Kd.R_lower hl24 HBc.out.size); replace HBX := am ((hbA.block g5 (blk_lt HBX.out)).trans HBX.out); replace HBc := am (HBc.out.trans (hbA.mono HBc.out.size)); clear hl24 hbA hnew_; refine hK.out _ _ ⟨(HSS.out _ HBc.out).1, (HSS.out _ HBc.out).2.1, (HSS.out _ HBc.out).2.2⟩ (fun hHeld => ?_); clear hK K; refine nn_ (some 24) ?_; refine one_ (i := 13) (N := some 31) (bmk 17 49151) rfl rfl (by kernel_rfl) (by decide) (fun K hK => ?_); refine Kd.R_append_rows_step Kd.string (w0 := wr) wr.heap.size ?aW (.tmp 24) (.tmp 30) 30 9 (.string ⟨#[]⟩) 16 ?aH Try.underlying30 infStr rfl (by decide) (by decide) (.slice A24 ([] : List ByteArray).length c24) ([] : List ByteArray) (rd_T33 l0 i).f1 A1 (rd_T33 l0 i).f1.length c1 (fun k => wr.heap.size ≤ k) (fun _ => False) ?a1 ?a2 ?aO ?aR (fun _ _ h => h) (fun _ h => h.elim) ?aF ?aB ?aS ?aL ?_; (case aW => rfl); (case aH => rfl); (case a1 => rfl); (case a2 => rfl); (case aO => exact HL24.out); (case aR => exact Kd.C_below HPC.out HBc.out); (case aF => exact fun k hk => Nat.le_trans HBc.out.size hk); (case aB => exact HBc.out); (case aS => exact HBc.out.size); (case aL => (have := HLim.out.1; simp; omega)); intro vp wP hop hbp hgp hatp; rw [List.nil_append] at hop; obtain ⟨Ap, cp, ep⟩ := Kd.R_slice hop; subst ep; have HPP := am hop; replace HBX := am (blk_grown HBX.out hgp (Kd.R_ne HL24.out HBX.out (by decide))); replace HBc := am hbp; clear hop hbp hgp hatp HL24; refine hK.out _ _ ⟨(HSS.out _ HBc.out).1, (HSS.out _ HBc.out).2.1, (HSS.out _ HBc.out).2.2⟩ (fun hHeld => ?_); clear hK K; refine nn_ (some 31) ?_; refine px_ 14 (some 32) (bmk 17 65535) ?_; exact norm_ (by simp only [putAll, Act.put, List.setIfInBounds_toArray, List.set_cons_zero, List.set_cons_succ]) (hCont (A24, c24, Ap, cp, g5) _ ⟨hHeld, HPP.out, HBX.out, HGA.out, HBc.out⟩)
  rintro ⟨A24, c24, Ap, cp, g5⟩ wJ ⟨hHeld, hpp, hbox, hga, hbJ⟩; obtain ⟨hz0, hz1, hz2, hf0, hf1, hf2⟩ := bc3 hbox; have HPJ := am hpp; have HXJ := am hbox; have HGJ := am hga; have HBJ := am hbJ; clear hpp hbox hga hbJ; refine norm_ (a' := ?_) ?_ ?_; rotate_left
  ·simp only [putAll, Act.put, List.setIfInBounds_toArray, List.set_cons_zero, List.set_cons_succ]; rfl
  refine last_ (i := 16) (N := none) (bmk 17 131071) rfl rfl (by kernel_rfl) (by decide) (fun K hK => ?_); refine skip_ (w1 := ?_) (by rfl) rfl ?_ ?_; rotate_left
  ·go_simp; rfl
  refine hK.out _ _ ?_; clear hK K; refine done_ (by kernel_rfl) ?_; go_wp2_with fail; go_meet
  case rel =>
   have hb1 := blk_put HXJ.out 0 (.string ((rd_T33 l0 i).f0)) rfl; have hb2 := blk_put hb1 1 (.slice Ap (rd_T33 l0 i).f1.length cp) rfl; have hb3 := blk_put hb2 2 (.slice none 0 0) rfl; exact ⟨g5, Ap, cp, rfl, ⟨below_set (below_set (below_set HBJ.out HGJ.out) HGJ.out) HGJ.out⟩, ⟨hb3⟩, HGJ, ⟨Kd.R_mono (Kd.R_far (p := ⟨g5, 2, none⟩) (Kd.R_far (p := ⟨g5, 1, none⟩) (Kd.R_far (p := ⟨g5, 0, none⟩) (Kd.R_types HPJ.out HXJ.out (by decide)) (fun k hk => hk.2) _) (fun k hk => hk.2) _) (fun k hk => hk.2) _) (fun k hk => hk.1)⟩⟩
 case rest =>
 obtain ⟨g5, Ap, cp, rfl, HBv, HXv, HGv, HVv⟩ := hcut; refine (‹∀ (a : Act) (w : World), Code.wp Try.prog _ _ a w → _›) _ _ ?_; have HC1 := am (show Cp1 w wr wc gb gr go (some ad) c0 l0 (.slice Av out.length cv) out g5 ((rd_T33 l0 i).f0) (.slice Ap (rd_T33 l0 i).f1.length cp) (rd_T33 l0 i).f1 (.slice none 0 0) [] from ⟨HC.out, HBv.out, HXv.out, HGv.out, Kd.R_mono HVv.out (fun _ _ => trivial), Kd.S_nil _ _ _ _ _⟩); clear HSS HBv HXv HGv HVv HPC hx0 hx1 hb0; have HW0 := am HC.out.bel; clear HC; generalize hnm : ((rd_T33 l0 i).f0) = nm at *; generalize hps : (rd_T33 l0 i).f1 = ps at *; generalize hal : (rd_T33 l0 i).f2 = al0 at *; go_wp2; obtain ⟨W0, rfl⟩ : ∃ W0, W0 = wr := ⟨_, rfl⟩; go_loopg [6] kq (fun kp v6 w' => ∃ (j : Int) (alts : List S63) (av : Value), v6 = .int .i64 j ∧ Aside0 (cpAlts kp al0 j alts = some ta) ∧ Aside0 (Cp1 w W0 w' gb gr go (some ad) c0 l0 (.slice Av out.length cv) out g5 nm (.slice Ap ps.length cp) ps av alts))
 case atStart => exact ⟨0, [], _, rfl, HT, HC1⟩
 case round =>
 clear HT HC1; obtain ⟨j, alts, av, rfl, HA, HC1⟩ := hrel
 cases gk with
 | zero => exact absurd HA.out (by simp [cpAlts])
 | succ kp =>
 have H := HA.out; clear HA; simp only [cpAlts] at H; have hb0 : wr.cell? ⟨gb, 0, none⟩ = some (.slice (some ad) l0.length c0) := (blk_cell HC1.out.nul.bb 0).trans rfl; have hx2 := hbc HC1.out.nul.bel HX2.out; obtain ⟨Aw, cw, ew⟩ := Kd.S_slice HC1.out.arow; subst ew; by_cases d0 : j < (al0.length : Int)
 case neg =>
  rw [if_neg d0] at H; obtain rfl := si H; have d0b : decide (j < (al0.length : Int)) = false := decide_eq_false d0; have ho0 : wr.cell? ⟨go, 0, none⟩ = some (.slice Av out.length cv) := (blk_cell HC1.out.nul.bo 0).trans rfl; have h50 : wr.cell? ⟨g5, 0, none⟩ = some (.string nm) := (blk_cell HC1.out.b5 0).trans rfl; have h51 : wr.cell? ⟨g5, 1, none⟩ = some (.slice Ap ps.length cp) := (blk_cell HC1.out.b5 1).trans rfl; have h52 : wr.cell? ⟨g5, 2, none⟩ = some (.slice Aw alts.length cw) := (blk_cell HC1.out.b5 2).trans rfl; clear d0 H; go_wp2_with ((with_reducible refine gate_builtin (b := .append) (xs := #[.tmp 90, .tmp 92]) rfl ?_); at_builtin; refine Kd.S_append kRu (w0 := wr) (W := wr) w.heap.size rfl (.tmp 90) (.tmp 92) 24 33 (.agg #[(.string ⟨#[]⟩), (.slice none 0 0), (.slice none 0 0)]) 64 rfl Try.underlying24 infRule rfl (by decide) (by decide) (.slice Av out.length cv) out ⟨nm, ps, alts⟩ [.string nm, .slice Ap ps.length cp, .slice Aw alts.length cw] (fun _ => True) (fun k => W0.heap.size ≤ k) rfl rfl ?aP ?aK ?aF ?aO ?aB ?aS ?aL ?_; (case aP => exact HC1.out.app.1); (case aK => exact HC1.out.app.2.1); (case aF => exact fun _ _ => trivial); (case aO => exact HC1.out.app.2.2); (case aB => exact Below.refl _ _); (case aS => exact HC1.out.nul.bel.size); (case aL => (have := HLim.out.2; omega)); intro rv2 w3 ho hb hg hat; have HC3 := am (HC1.out.nul.put ho hb hg); have hz := blk_grown HC1.out.nul.bo hg (Kd.S_ne HC1.out.nul.row HC1.out.nul.bo (by decide)); have hzc : w3.cell? ⟨go, 0, none⟩ = some (.slice Av out.length cv) := (blk_cell hz 0).trans rfl; have hzf := blk_frozen hz 0; obtain ⟨Az, cz, ez⟩ := Kd.S_slice ho; subst ez; clear ho hb hg hat hz); go_roundg kq
  case measure => exact Nat.lt_succ_self _
  case rel => (simp only [List.length_append, List.length_cons, List.length_nil, Nat.zero_add] at HC3); exact ⟨wrap64 (i + 1), _, _, rfl, HQ, HC3⟩
 rw [if_pos d0] at H; by_cases d1 : 0 ≤ j
 case neg => rw [if_neg d1] at H; exact absurd H (by simp)
 rw [if_pos d1] at H; by_cases hla : alts.length < 5864062014805
 case neg => rw [if_neg hla] at H; exact absurd H (by simp)
 rw [if_pos hla] at H; obtain ⟨ts, hts, H⟩ := Option.bind_eq_some_iff.mp H; have HT2 := am hts; have HQ2 := am H; have HLa := am hla; obtain ⟨ad2, A3, c3, e0, hy0, hl3, hi3⟩ := at_T63 HI2.out j d1 d0; subst e0; have HY0 := am hy0; have HI3 := am hi3; have d0b : decide (j < (al0.length : Int)) = true := decide_eq_true d0; have q2 := eq_true d0; have q3 := eq_true d1; clear d0 d1 hla hts H hl3 hi3 hy0; go_upto_region 10 with fail
 have HC2 := am (show Cp2 w W0 wr _ gb gr go (some ad) c0 l0 (.slice Av out.length cv) out g5 nm (.slice Ap ps.length cp) ps (.slice Aw alts.length cw) alts wr.heap.size (.slice none 0 0) [] from
  ⟨HC1.out, below_alloc (Below.refl wr.heap.size wr) (.cells #[.slice none 0 0] 63), heap_alloc_new wr (.cells #[.slice none 0 0] 63), Nat.le_refl _, Kd.R_nil _ _ _ _ _⟩)
 obtain ⟨g7, hg7⟩ : ∃ g7, g7 = wr.heap.size := ⟨_, rfl⟩; rw [← hg7] at HC2 ⊢; clear hg7 HC1 hb0 hx2; generalize wr.alloc (.cells #[.slice none 0 0] 63) = w7 at *; obtain ⟨W1, rfl⟩ : ∃ W1, W1 = wr := ⟨_, rfl⟩; generalize hsy : (rd_T63 al0 j).f0 = sy0 at *; go_wp2; go_loopg [8] kp (fun kz v8 w' => ∃ (z : Int) (syms : List S66) (sv : Value), v8 = .int .i64 z ∧ Aside0 (cpSyms kz sy0 z syms = some ts) ∧ Aside0 (Cp2 w W0 W1 w' gb gr go (some ad) c0 l0 (.slice Av out.length cv) out g5 nm (.slice Ap ps.length cp) ps (.slice Aw alts.length cw) alts g7 sv syms))
 case atStart => exact ⟨0, [], _, rfl, HT2, HC2⟩
 case round =>
 clear HT2 HC2; obtain ⟨z, syms, sv, rfl, HA, HC2⟩ := hrel
 cases gk with
 | zero => exact absurd HA.out (by simp [cpSyms])
 | succ kz =>
 have H := HA.out; clear HA; simp only [cpSyms] at H; have hb0 : wr.cell? ⟨gb, 0, none⟩ = some (.slice (some ad) l0.length c0) := (blk_cell HC2.out.one.nul.bb 0).trans rfl; have hx2 := hbc HC2.out.one.nul.bel HX2.out; have hy0 := hbc HC2.out.one.nul.bel HY0.out; have h70 : wr.cell? ⟨g7, 0, none⟩ = some sv := (blk_cell HC2.out.b7 0).trans rfl; obtain ⟨As, cs, es⟩ := Kd.R_slice HC2.out.srow; subst es; by_cases d0 : z < (sy0.length : Int)
 case neg =>
  rw [if_neg d0] at H; obtain rfl := si H; have d0b : decide (z < (sy0.length : Int)) = false := decide_eq_false d0; have h52 : wr.cell? ⟨g5, 2, none⟩ = some (.slice Aw alts.length cw) := (blk_cell HC2.out.one.b5 2).trans rfl; clear d0 H; go_wp2_with ((with_reducible refine gate_builtin (b := .append) (xs := #[.tmp 84, .tmp 86]) rfl ?_); at_builtin; refine Kd.S_append kA (w0 := wr) (W := wr) W0.heap.size rfl (.tmp 84) (.tmp 86) 31 63 (.agg #[(.slice none 0 0)]) 24 rfl Try.underlying31 infAlt rfl (by decide) (by decide) (.slice Aw alts.length cw) alts ⟨syms⟩ [.slice As syms.length cs] (fun _ => True) (fun k => W1.heap.size ≤ k) rfl rfl ?aP ?aK ?aF ?aO ?aB ?aS ?aL ?_; (case aP => exact HC2.out.app.1); (case aK => exact HC2.out.app.2.1); (case aF => exact fun _ _ => trivial); (case aO => exact HC2.out.app.2.2); (case aB => exact Below.refl _ _); (case aS => exact HC2.out.one.bl.size); (case aL => (have := HLa.out; omega)); intro av2 w3 ho hb hg hat; have HC3 := am (HC2.out.one.put ho hb hg); have hz := blk_grown HC2.out.one.b5 hg (Kd.S_ne HC2.out.one.arow HC2.out.one.b5 (by decide)); have hzc : w3.cell? ⟨g5, 2, none⟩ = some (.slice Aw alts.length cw) := (blk_cell hz 2).trans rfl; have hzf := blk_frozen hz 2; obtain ⟨Az, cz, ez⟩ := Kd.S_slice ho; subst ez; clear ho hb hg hat hz); go_roundg kp
  case measure => exact Nat.lt_succ_self _
  case rel => (simp only [List.length_append, List.length_cons, List.length_nil, Nat.zero_add] at HC3); exact ⟨wrap64 (j + 1), _, _, rfl, HQ2, HC3⟩
 rw [if_pos d0] at H; by_cases d1 : 0 ≤ z
 case neg => rw [if_neg d1] at H; exact absurd H (by simp)
 rw [if_pos d1] at H; by_cases hls : syms.length < 2199023255552
 case neg => rw [if_neg hls] at H; exact absurd H (by simp)
 rw [if_pos hls] at H; obtain ⟨tx, htx, H⟩ := Option.bind_eq_some_iff.mp H; have HT3 := am htx; have HQ3 := am H; have HLs := am hls; obtain ⟨ad3, A4, c4, e0, hs0, hs1, hs2, hs3, hl4, hi4⟩ := at_T66 HI3.out z d1 d0; subst e0; replace hs0 := hbc HC2.out.one.nul.bel hs0; replace hs1 := hbc HC2.out.one.nul.bel hs1; replace hs2 := hbc HC2.out.one.nul.bel hs2; replace hs3 := hbc HC2.out.one.nul.bel hs3; have HL4 := am hl4; have HI4 := am (Kd.C_below hi4 HC2.out.one.nul.bel); have d0b : decide (z < (sy0.length : Int)) = true := decide_eq_true d0; have q4 := eq_true d0; have q5 := eq_true d1; clear d0 d1 hls htx H hl4 hi4; generalize rd_T66 sy0 z = x at *; go_upto_region 14 with fail; have HX := am (heap_alloc_new wr (.cells #[.int .i64 x.f0, .string x.f1, .slice A4 x.f2.length c4, .string x.f3] 66)); have HB1 := am (below_alloc (Below.refl wr.heap.size wr) (.cells #[.int .i64 x.f0, .string x.f1, .slice A4 x.f2.length c4, .string x.f3] 66)); obtain ⟨g9, hg9⟩ : ∃ g9, g9 = wr.heap.size := ⟨_, rfl⟩; have HG9 := am (Nat.le_of_eq hg9.symm); rw [← hg9] at HX ⊢; clear hg9 hs0 hs1 hs2 hs3 hb0 hx2 hy0 h70; generalize wr.alloc (.cells #[.int .i64 x.f0, .string x.f1, .slice A4 x.f2.length c4, .string x.f3] 66) = w8 at *; have hz2 : w8.cell? ⟨g9, 2, none⟩ = some (.slice A4 x.f2.length c4) := (blk_cell HX.out 2).trans rfl; go_upto_region 15 with (go_at_call 42; refine (spec_l04Copies.calls kz A4 c4 x.f2 tx _ (Kd.C_below HI4.out HB1.out) HL4.out HT3.out).mono ?_; rintro e w9 ⟨v, rfl, hv, hb⟩; obtain ⟨Ay, cy, ey⟩ := Kd.R_slice hv; subst ey; have HX9 := am ((hb.block g9 (blk_lt HX.out)).trans HX.out); have hzc : w9.cell? ⟨g9, 2, none⟩ = some (.slice A4 x.f2.length c4) := (blk_cell HX9.out 2).trans rfl; have hzf := blk_frozen HX9.out 2; have HV9 := am (Kd.R_lower hv HB1.out.size); have HB9 := am (HB1.out.trans (hb.mono HB1.out.size)); clear hv hb); have HXa := am (blk_put HX9.out 2 (.slice Ay tx.length cy) rfl); have HBa := am (show Below wr.heap.size wr (w9.setCell ⟨g9, 2, none⟩ (.slice Ay tx.length cy)) from below_set HB9.out HG9.out); have HVa := am (Kd.R_mono (Kd.R_far (p := ⟨g9, 2, none⟩) (Kd.R_types HV9.out HX9.out (by decide)) (fun k hk => hk.2) (.slice Ay tx.length cy)) (ok' := fun _ => True) (fun _ _ => trivial)); clear HX9 HB9 HV9 HX HB1 hzc hzf hz2; generalize w9.setCell ⟨g9, 2, none⟩ (.slice Ay tx.length cy) = wa at *; have h90 : wa.cell? ⟨g9, 0, none⟩ = some (.int .i64 x.f0) := (blk_cell HXa.out 0).trans rfl; have h91 : wa.cell? ⟨g9, 1, none⟩ = some (.string x.f1) := (blk_cell HXa.out 1).trans rfl; have h92 : wa.cell? ⟨g9, 2, none⟩ = some (.slice Ay tx.length cy) := (blk_cell HXa.out 2).trans rfl; have h93 : wa.cell? ⟨g9, 3, none⟩ = some (.string x.f3) := (blk_cell HXa.out 3).trans rfl; have HCa := am (HC2.out.below HBa.out); have h70 : wa.cell? ⟨g7, 0, none⟩ = some (.slice As syms.length cs) := (blk_cell HCa.out.b7 0).trans rfl; have HAK := am (show ∀ k, wr.heap.size ≤ k → True ∧ some k ≠ (Value.slice As syms.length cs).ownBlock from fun k hk => ⟨trivial, fun e => by have := Kd.R_lt HC2.out.srow k e.symm; omega⟩); have HAP := am (k66_mkM wa W1.heap.size (fun k => wr.heap.size ≤ k) ⟨x.f0, x.f1, tx, x.f3⟩ (Kd.R_mono (Kd.R_lower (Kd.R_bound HVa.out) HC2.out.bl.size) (fun k hk => hk.2.1))); clear HC2 HXa HVa HBa; go_wp2_with ((with_reducible refine gate_builtin (b := .append) (xs := #[.tmp 78, .tmp 80]) rfl ?_); at_builtin; refine Kd.R_append k66 (w0 := wa) (W := wa) W1.heap.size rfl (.tmp 78) (.tmp 80) 61 66 (.agg #[(.int .i64 0), (.string ⟨#[]⟩), (.slice none 0 0), (.string ⟨#[]⟩)]) 64 rfl Try.underlying61 infSym rfl (by decide) (by decide) (.slice As syms.length cs) syms ⟨x.f0, x.f1, tx, x.f3⟩ [.int .i64 x.f0, .string x.f1, .slice Ay tx.length cy, .string x.f3] (fun _ => True) (fun k => wr.heap.size ≤ k) rfl rfl ?aP ?aK ?aF ?aO ?aB ?aS ?aL ?_; (case aP => exact HAP.out); (case aK => exact HAK.out); (case aF => exact fun _ _ => trivial); (case aO => exact HCa.out.srow); (case aB => exact Below.refl _ _); (case aS => exact HCa.out.bl.size); (case aL => (have := HLs.out; omega)); intro sv2 w3 ho hb hg hat; have HC3 := am (HCa.out.put ho hb hg); have hz := blk_grown HCa.out.b7 hg (Kd.R_ne HCa.out.srow HCa.out.b7 (by decide)); have hzc : w3.cell? ⟨g7, 0, none⟩ = some (.slice As syms.length cs) := (blk_cell hz 0).trans rfl; have hzf := blk_frozen hz 0; obtain ⟨Az, cz, ez⟩ := Kd.R_slice ho; subst ez; clear ho hb hg hat hz); go_roundg kz
 case measure => exact Nat.lt_succ_self _
 case rel => (simp only [List.length_append, List.length_cons, List.length_nil, Nat.zero_add] at HC3); exact ⟨wrap64 (z + 1), _, _, rfl, HQ3, HC3⟩
theorem spec_l06Copy.calls (k : Nat) (A0_0 : Option Addr) (c0_0 : Nat) (l0_0 : List S33) (r : List S33) (w : World) (hr0_0 : Kd.C k33 w A0_0 l0_0.length l0_0) (hc0_0 : l0_0.length ≤ c0_0) (h : spec_l06Copy.f k l0_0 = some r) :
  Calls Try.prog 29 #[.agg #[.slice A0_0 l0_0.length c0_0]] w fun e w' => ∃ v0_ : Value, e = .returned (.agg #[v0_]) ∧ Kd.R k33 33 w' w.heap.size (fun _ => True) v0_ r ∧ Below w.heap.size w w' := by
 refine (copy_calls k A0_0 c0_0 l0_0 r w hr0_0 hc0_0 h).mono ?_; rintro e w' ⟨v, rfl, hv, hb⟩; exact ⟨v, rfl, kRu_R hv, hb⟩
def spec_RuleAt.l0 : Nat → ByteArray → Int → List (S33) → Option (Int)
 | 0, _, _, _ => none
 | k + 1, x1, x5, x307000 => if x5 < (x307000.length : Int) then (if 0 ≤ x5 then (if ((rd_T33 x307000 x5).f0).toList = x1.toList then (some x5) else (spec_RuleAt.l0 k x1 (wrap64 (x5 + 1)) x307000)) else (none)) else (some (-1))
def spec_RuleAt.f (k : Nat) (l0_0 : List (S33)) (a1 : ByteArray) : Option (Int) := spec_RuleAt.l0 k a1 0 l0_0
theorem spec_RuleAt.mono_l : ∀ k, (∀ y0 y1 y2, LeO (spec_RuleAt.l0 k y0 y1 y2) (spec_RuleAt.l0 (k + 1) y0 y1 y2))
 | 0 => fun _ _ _ r h => by simp [spec_RuleAt.l0] at h
 | k + 1 => by
  have ih0 := spec_RuleAt.mono_l k
  ·intro y0 y1 y2; unfold spec_RuleAt.l0; repeat' with_reducible first | exact ih0 _ _ _ | exact LeO.refl _ | refine LeO.ite ?_ ?_
theorem spec_RuleAt.mono : ∀ a0 a1 k, LeO (spec_RuleAt.f k a0 a1) (spec_RuleAt.f (k + 1) a0 a1) := by
 intro a0 a1 k; have ih0 := spec_RuleAt.mono_l k; unfold spec_RuleAt.f; repeat' (with_reducible exact ih0 _ _ _)
theorem spec_RuleAt.calls (k : Nat) (A0_0 : Option Addr) (c0_0 : Nat) (l0_0 : List (S33)) (a1 : ByteArray) (r : Int) (w : World) (hr0_0 : Kd.C k33 w A0_0 l0_0.length l0_0) (hc0_0 : l0_0.length ≤ c0_0) (h : spec_RuleAt.f k l0_0 a1 = some r) :
  Calls Try.prog 10 #[.agg #[.slice A0_0 l0_0.length c0_0], .string a1] w fun e w' => e = .returned (.int .i64 r) ∧ Below w.heap.size w w' := by
 have hu26 := Try.underlying26; have HR0_0 := am hr0_0; have HC0_0 := am hc0_0; clear hr0_0 hc0_0; have HB := am (Below.refl w.heap.size w); have H : (spec_RuleAt.l0 k a1 0 l0_0) = some r := h; clear h; have H' := am H; clear H; go_enter Try.func10, Try.ntmps10; go_wp2_with (((with_reducible refine gd 2 ?_); refine bo_ #[.slice A0_0 l0_0.length c0_0] 26 (w := w) ?_; clear HB; intro gb306 hg w3 hb BK306 GE306 HB; clear hb hg)); go_loopg [5] k (fun kq v5 w' => ∃ (x5_1 : Int), v5 = .int .i64 x5_1 ∧ Aside0 (spec_RuleAt.l0 kq a1 x5_1 l0_0 = some r) ∧ Aside0 (kq ≤ k) ∧ Aside0 (w'.heap[gb306]? = some (.cells #[(.slice A0_0 l0_0.length c0_0)] 26 (0, 0))) ∧ Aside0 (Below w.heap.size w w'))
 case atStart => exact ⟨(0), (by rfl), H', ⟨Nat.le_refl _⟩, BK306, HB⟩
 case round =>
  clear H'; obtain ⟨x5_1, rfl, HA, HK1, BK306, HB⟩ := hrel
  cases gk with
  | zero => exact absurd HA.out (by simp [spec_RuleAt.l0])
  | succ k1 =>
   have H := HA.out; clear HA; simp only [spec_RuleAt.l0] at H; rcases cd H, H with ⟨⟨c4b0, H⟩ | ⟨c4b0, H⟩, -⟩
   ·rcases cn H, H with ⟨⟨c5b0, H⟩, -⟩; rcases ce H, H with ⟨⟨-, c6b0, c6b1, H⟩ | ⟨c6, c6b0, c6b1, H⟩, -⟩
    ·obtain rfl := si H; have z7 := bc1 BK306.out; obtain ⟨p307, q307, ad307, A307_1, c307_1, A307_2, c307_2, e307, hx307_0, hx307_1, hx307_2, HC307_1, HR307_1, HC307_2, HR307_2⟩ := aw_T33 HB HR0_0 x5_1 oa oa; cases e307; go_wp2; go_ret; exact ⟨by rfl, HB.out⟩
    ·have H' := am H; clear H; have z8 := bc1 BK306.out; obtain ⟨p307, q307, ad307, A307_1, c307_1, A307_2, c307_2, e307, hx307_0, hx307_1, hx307_2, HC307_1, HR307_1, HC307_2, HR307_2⟩ := aw_T33 HB HR0_0 x5_1 oa oa; cases e307; go_wp2; go_roundg k1
     case measure => have := HK1.out; omega
     case rel => exact ⟨(wrap64 (x5_1 + 1)), (by rfl), H', ⟨by have := HK1.out; omega⟩, BK306, HB⟩
   ·obtain rfl := si H; have z9 := bc1 BK306.out; go_wp2; go_ret; exact ⟨by rfl, HB.out⟩
def spec_l01Figure.f (a0 : Int) : Option (Int) := if a0 < 10 then (some ((wrap64 (48 + a0)) % 256)) else (some ((wrap64 ((wrap64 (97 + a0)) - 10)) % 256))
theorem spec_l01Figure.calls (a0 : Int) (r : Int) (w : World) (h : spec_l01Figure.f a0 = some r) :
  Calls Try.prog 75 #[.int .i64 a0] w fun e w' => e = .returned (.int .u8 r) ∧ Drawn0 w w' := by
 have H := h; unfold spec_l01Figure.f at H; clear h; rcases cd H, H with ⟨⟨c2b0, H⟩ | ⟨c2b0, H⟩, -⟩
 ·obtain rfl := si H; go_enter Try.func75, Try.ntmps75; go_wp2; go_ret; exact ⟨by rfl, by repeat (exact Drawn0.refl _)⟩
 ·obtain rfl := si H; go_enter Try.func75, Try.ntmps75; go_wp2; go_ret; exact ⟨by rfl, by repeat (exact Drawn0.refl _)⟩
def spec_Decimal.l0 : Nat → Int → Bool → ByteArray → Option (ByteArray)
 | 0, _, _, _ => none
 | k + 1, x0, x3, x4 => if x0 = 0 then (if x3 = true then (if 1 + x4.size ≤ 9223372036854775807 then (some ((⟨#[45]⟩ : ByteArray) ++ x4)) else (none)) else (some x4)) else (if (Int.tmod x0 10) < 0 then ((spec_l01Figure.f (wrap64 (-(Int.tmod x0 10)))).bind fun t341 => ((some (([t341] : List Int) : List Int)).bind fun y342 => (if (strOfNums y342).size + x4.size ≤ 9223372036854775807 then (spec_Decimal.l0 k (wrap64 (Int.tdiv x0 10)) x3 ((strOfNums y342) ++ x4)) else (none)))) else ((spec_l01Figure.f (Int.tmod x0 10)).bind fun t345 => ((some (([t345] : List Int) : List Int)).bind fun y346 => (if (strOfNums y346).size + x4.size ≤ 9223372036854775807 then (spec_Decimal.l0 k (wrap64 (Int.tdiv x0 10)) x3 ((strOfNums y346) ++ x4)) else (none)))))
def spec_Decimal.f (k : Nat) (a0 : Int) : Option (ByteArray) := if a0 = 0 then (some (⟨#[48]⟩ : ByteArray)) else (spec_Decimal.l0 k a0 (decide (a0 < 0)) (⟨#[]⟩ : ByteArray))
theorem spec_Decimal.mono_l : ∀ k, (∀ y0 y1 y2, LeO (spec_Decimal.l0 k y0 y1 y2) (spec_Decimal.l0 (k + 1) y0 y1 y2))
 | 0 => fun _ _ _ r h => by simp [spec_Decimal.l0] at h
 | k + 1 => by
  have ih0 := spec_Decimal.mono_l k
  ·intro y0 y1 y2; unfold spec_Decimal.l0; repeat' with_reducible first | exact ih0 _ _ _ | exact LeO.refl _ | refine LeO.ite ?_ ?_ | refine LeO.bind ?_ (fun _ => ?_)
theorem spec_Decimal.mono : ∀ a0 k, LeO (spec_Decimal.f k a0) (spec_Decimal.f (k + 1) a0) := by
 intro a0 k; have ih0 := spec_Decimal.mono_l k; unfold spec_Decimal.f; repeat' with_reducible first | exact ih0 _ _ _ | exact LeO.refl _ | refine LeO.ite ?_ ?_
theorem spec_Decimal.calls (k : Nat) (a0 : Int) (r : ByteArray) (w : World) (h : spec_Decimal.f k a0 = some r) :
  Calls Try.prog 66 #[.int .i64 a0] w fun e w' => e = .returned (.string r) ∧ Below w.heap.size w w' := by
 have HB := am (Below.refl w.heap.size w); have H := h; unfold spec_Decimal.f at H; clear h; rcases ce H, H with ⟨⟨-, c2b0, c2b1, H⟩ | ⟨c2, c2b0, c2b1, H⟩, -⟩
 ·obtain rfl := si H; go_enter Try.func66, Try.ntmps66; go_wp2; go_ret; exact ⟨by rfl, HB.out⟩
 ·have H' := am H; clear H; go_enter Try.func66, Try.ntmps66; go_wp2; go_loopg [0, 4] k (fun kq v0 v4 w' => ∃ (x0_1 : Int) (x4_1 : ByteArray), v0 = .int .i64 x0_1 ∧ v4 = .string x4_1 ∧ Aside0 (spec_Decimal.l0 kq x0_1 (decide (a0 < 0)) x4_1 = some r) ∧ Aside0 (kq ≤ k) ∧ Aside0 (Below w.heap.size w w'))
  case atStart => exact ⟨(a0), ((⟨#[]⟩ : ByteArray)), (by rfl), (by rfl), H', ⟨Nat.le_refl _⟩, HB⟩
  case round =>
   clear H'; try clear c2
   try clear c2b0
   try clear c2b1
   obtain ⟨x0_1, x4_1, rfl, rfl, HA, HK1, HB⟩ := hrel
   cases gk with
   | zero => exact absurd HA.out (by simp [spec_Decimal.l0])
   | succ k1 =>
    have H := HA.out; clear HA; simp only [spec_Decimal.l0] at H; rcases ce H, H with ⟨⟨-, c3b0, c3b1, H⟩ | ⟨c3, c3b0, c3b1, H⟩, -⟩
    ·by_cases c4 : (decide (a0 < 0)) = true
     ·rw [if_pos c4] at H; have c4b0 : (decide (a0 < 0)) = true := c4; (try (have c4b1 : a0 < 0 := by simpa using c4)); clear c4; rcases cm H, H with ⟨⟨c5, H⟩, -⟩; have c5b0 := eq_true c5; have c5b1 : decide (1 + x4_1.size ≤ 9223372036854775807) = true := decide_eq_true c5; try have c5b2 : (9223372036854775807 < 1 + x4_1.size) = False := eq_false (Nat.not_lt.2 c5)
      obtain rfl := si H; go_wp2; go_ret; exact ⟨by rfl, HB.out⟩
     ·rw [if_neg c4] at H; have c4b0 : (decide (a0 < 0)) = false := by simpa using c4
      (try (have c4b1 : ¬ (a0 < 0) := by simpa using c4)); clear c4; obtain rfl := si H; go_wp2; go_ret; exact ⟨by rfl, HB.out⟩
    ·rcases cd H, H with ⟨⟨c6b0, H⟩ | ⟨c6b0, H⟩, -⟩
     ·rcases ob H, H with ⟨⟨t341, A7, H⟩, -⟩; obtain ⟨y342, hy342⟩ : ∃ y_ : List Int, y_ = (([t341] : List Int)) := ⟨_, rfl⟩; replace H := (Option.bind_some _ _).symm.trans H; rw [← hy342] at H; have Ny342 := am hy342; clear hy342; rcases cm H, H with ⟨⟨c8, H⟩, -⟩; have c8b0 := eq_true c8; have c8b1 : decide ((strOfNums y342).size + x4_1.size ≤ 9223372036854775807) = true := decide_eq_true c8; try have c8b2 : (9223372036854775807 < (strOfNums y342).size + x4_1.size) = False := eq_false (Nat.not_lt.2 c8)
      have H' := am H; clear H; go_wp2_with (first | ((with_reducible refine gc 75 ?_); refine gl_ 19 Try.func75 #[.int .i64 (wrap64 (-(Int.tmod x0_1 10)))] ?_; (with_reducible refine (spec_l01Figure.calls (wrap64 (-(Int.tmod x0_1 10))) t341 _ A7.out).mono ?_); rintro e w' ⟨rfl, ⟨nd, rfl⟩⟩; refine ⟨_, rfl, ?_⟩) | ((with_reducible refine gate_dst (N := 20) rfl ?_); refine Kd.R_lit (Kd.int .u8) _ 5 ?hg (N := 20) ?hd (xs := ([t341] : List Int)) (inner := [.int .u8 t341]) (ok := fun _ => True) (okp := fun _ => True) ?hr ?hp (fun _ hk => hk) trivial (Below.refl _ _) (Nat.le_refl _) (by simp) ?_; (case hd => rfl); (case hg => rfl); (case hr => (go_simp; done)); (case hp => exact (Reps.one (show Kd.M (Kd.int .u8) _ _ _ t341 [.int .u8 t341] from rfl) (Reps.none _ _))); intro v343 w9 ho10 hb hg_ hnew_; clear hg_ hnew_; ((rw [← Ny342.out] at ho10)); have HO344 := am (Kd.R_lower ho10 (below_size bw)); replace HB := am (below_step bw hb); clear hb ho10; have hcv11 := own_string (P := Try.prog) Try.underlying22 Try.underlying5 Try.underlying9 (Kd.own_of_R HO344.out))); go_roundg k1
      case measure => have := HK1.out; omega
      case rel => exact ⟨(wrap64 (Int.tdiv x0_1 10)), ((strOfNums y342) ++ x4_1), (by rfl), (by rfl), H', ⟨by have := HK1.out; omega⟩, HB⟩
     ·rcases ob H, H with ⟨⟨t345, A12, H⟩, -⟩; obtain ⟨y346, hy346⟩ : ∃ y_ : List Int, y_ = (([t345] : List Int)) := ⟨_, rfl⟩; replace H := (Option.bind_some _ _).symm.trans H; rw [← hy346] at H; have Ny346 := am hy346; clear hy346; rcases ci H, H with ⟨⟨c13, H⟩ | ⟨c13, H⟩, -⟩
      ·have c13b0 := eq_true c13; have c13b1 : decide ((strOfNums y346).size + x4_1.size ≤ 9223372036854775807) = true := decide_eq_true c13; try have c13b2 : (9223372036854775807 < (strOfNums y346).size + x4_1.size) = False := eq_false (Nat.not_lt.2 c13)
       have H' := am H; clear H; go_wp2_with (first | ((with_reducible refine gc 75 ?_); refine gl_ 19 Try.func75 #[.int .i64 (Int.tmod x0_1 10)] ?_; (with_reducible refine (spec_l01Figure.calls (Int.tmod x0_1 10) t345 _ A12.out).mono ?_); rintro e w' ⟨rfl, ⟨nd, rfl⟩⟩; refine ⟨_, rfl, ?_⟩) | ((with_reducible refine gate_dst (N := 20) rfl ?_); refine Kd.R_lit (Kd.int .u8) _ 5 ?hg (N := 20) ?hd (xs := ([t345] : List Int)) (inner := [.int .u8 t345]) (ok := fun _ => True) (okp := fun _ => True) ?hr ?hp (fun _ hk => hk) trivial (Below.refl _ _) (Nat.le_refl _) (by simp) ?_; (case hd => rfl); (case hg => rfl); (case hr => (go_simp; done)); (case hp => exact (Reps.one (show Kd.M (Kd.int .u8) _ _ _ t345 [.int .u8 t345] from rfl) (Reps.none _ _))); intro v347 w14 ho15 hb hg_ hnew_; clear hg_ hnew_; ((rw [← Ny346.out] at ho15)); have HO348 := am (Kd.R_lower ho15 (below_size bw)); replace HB := am (below_step bw hb); clear hb ho15; have hcv16 := own_string (P := Try.prog) Try.underlying22 Try.underlying5 Try.underlying9 (Kd.own_of_R HO348.out))); go_roundg k1
       case measure => have := HK1.out; omega
       case rel => exact ⟨(wrap64 (Int.tdiv x0_1 10)), ((strOfNums y346) ++ x4_1), (by rfl), (by rfl), H', ⟨by have := HK1.out; omega⟩, HB⟩
      ·exact absurd H (by simp)
def spec_l04Of.f (l0 : List (S92)) : Option ((List (S92))) := some l0
theorem spec_l04Of.calls (P0_ : Nat → Prop) (A0 : Option Addr) (c0 : Nat) (l0 : List (S92)) (r : List (S92)) (w : World) (hs0 : Kd.V k92 92 w w.heap.size (fun k_ => P0_ k_) (.slice A0 l0.length c0) l0) (h : spec_l04Of.f l0 = some r) :
  Calls Try.prog 44 #[.slice A0 l0.length c0] w fun e w' => ∃ v0_ : Value, e = .returned (.agg #[v0_]) ∧ Kd.V k92 92 w' w.heap.size (fun k_ => (P0_ k_ ∨ w.heap.size ≤ k_)) v0_ r ∧ Below w.heap.size w w' := by
 have hu69 := Try.underlying69; have HO0 := am (show Kd.V k92 92 w w.heap.size (fun k_ => (P0_ k_ ∨ w.heap.size ≤ k_)) (.slice A0 l0.length c0) l0 from Kd.V_mono hs0 (fun k_ hk => .inl hk)); have HB := am (Below.refl w.heap.size w); have H : (some l0) = some r := h; clear h; obtain rfl := si H; go_enter Try.func44, Try.ntmps44; go_wp2_with (((with_reducible refine gd 2 ?_); refine bo_ #[.slice none 0 0] 69 (w := w) ?_; intro gb349 hg w2 hb BK349 GE349 HB1; replace HO0 := am (Kd.V_below (Kd.V_elderB HO0.out gb349 (Nat.le_of_eq hg.symm)) hb); clear HB; have HB := HB1; clear HB1 hb hg; have z3 := bc1 BK349.out)); refine bodyPost_ret (results_cell_row rfl _ _ gb349 69 #[.slice A0 l0.length c0] (0, 0) _ rfl bx Try.underlying69 rfl (by kernel_rfl)) rfl ?_; exact ⟨_, by rfl, by exact Kd.V_mono (Kd.V_far (p := ⟨gb349, 0, none⟩) (Kd.V_mono HO0.out (fun k_ hk => (⟨hk, hk.2⟩ : _ ∧ k_ ≠ gb349))) (fun _ hk => hk.2) (.slice A0 l0.length c0)) (fun _ hk => hk.1.1), bw⟩
def spec_l04Var.f (a0 : ByteArray) : Option ((List (S92))) := (spec_l04Of.f (([(⟨2, 0, a0, ([] : List Int)⟩ : S92)] : List (S92)))).bind fun t354 => (some t354)
theorem spec_l04Var.calls (a0 : ByteArray) (r : List (S92)) (w : World) (h : spec_l04Var.f a0 = some r) :
  Calls Try.prog 31 #[.string a0] w fun e w' => ∃ v0_ : Value, e = .returned (.agg #[v0_]) ∧ Kd.V k92 92 w' w.heap.size (fun k_ => (w.heap.size ≤ k_)) v0_ r ∧ Below w.heap.size w w' := by
 have hu69 := Try.underlying69; have hu92 := Try.underlying92; have HB := am (Below.refl w.heap.size w); have H := h; unfold spec_l04Var.f at H; clear h; obtain ⟨y351, hy351⟩ : ∃ y_ : List (S92), y_ = (([(⟨2, 0, a0, ([] : List Int)⟩ : S92)] : List (S92))) := ⟨_, rfl⟩; rw [← hy351] at H; have Ny351 := am hy351; clear hy351; rcases ob H, H with ⟨⟨t354, A2, H⟩, -⟩; obtain rfl := si H; go_enter Try.func31, Try.ntmps31; go_wp2_with (first | ((with_reducible refine gd 2 ?_); refine bo_ #[.slice none 0 0] 69 (w := w) ?_; clear HB; intro gb350 hg w3 hb BK350 GE350 HB; clear hb hg) | ((with_reducible refine gate_dst (N := 5) rfl ?_); refine Kd.S_lit k92 _ 92 ?hg (N := 5) ?hd (xs := ([(⟨2, 0, a0, ([] : List Int)⟩ : S92)] : List (S92))) (inner := [.int .i64 2, .int .i64 0, .string a0, .slice none 0 0]) (ok := fun _ => True) (okp := fun _ => True) ?hr ?hp (fun _ hk => hk) trivial (Below.refl _ _) (Nat.le_refl _) (by simp) ?_; (case hd => rfl); (case hg => rfl); (case hr => (go_simp; done)); (case hp => exact (Reps.c4 (show Kd.M k92 _ _ _ (⟨2, 0, a0, ([] : List Int)⟩ : S92) [.int .i64 2, .int .i64 0, .string a0, .slice none 0 0] from (k92_mkM _ _ _ (⟨2, 0, a0, ([] : List Int)⟩ : S92) (Kd.R_nil _ _ _ _ _))) (Reps.none _ _))); intro v352 w4 ho5 hb hg_ hnew_; clear hg_ hnew_; ((rw [← Ny351.out] at ho5)); have HO353 := am (Kd.S_lower (Kd.S_newM (M := fun k_ => (w.heap.size ≤ k_)) ho5 (below_size bw) (fun k_ h_ => h_)) (below_size bw)); replace BK350 := bb BK350 hb; replace HB := am (below_step bw hb); clear hb ho5; obtain ⟨Ao6, co6, eo6⟩ := Kd.S_slice HO353.out; subst eo6) | ((with_reducible refine gc 44 ?_); refine gl_ 6 Try.func44 #[.slice Ao6 y351.length co6] ?_; (with_reducible refine (spec_l04Of.calls (fun k_ => (((w.heap.size ≤ k_) ∧ True) ∧ k_ ≠ gb350)) _ _ y351 t354 _ ?side1 A2.out).mono ?_); (case side1 => exact Kd.S_V (Kd.S_types (HO353.out) BK350.out (by decide))); rintro e w7 ⟨v355, rfl, ho0, hb⟩; refine ⟨_, rfl, ?_⟩; have HO356 := am (Kd.V_lower (Kd.V_mono (ok' := fun k_ => (w.heap.size ≤ k_) ∧ k_ ≠ gb350) ho0 (fun k_ hk_ => ⟨Or.elim hk_ (fun hs_ => hs_.1.1) (fun hn_ => (Nat.le_trans (below_size bw) hn_)), Or.elim hk_ (fun hs_ => hs_.2) (fun hn_ => (Kd.freshB BK350.out k_ hn_))⟩)) (below_size bw)); replace HO353 := am (Kd.S_below HO353.out hb); replace BK350 := bb BK350 hb; replace HB := am (below_step bw hb); (try clear hb ho0); obtain ⟨Ao8, co8, eo8⟩ := Kd.V_slice HO356.out; subst eo8; have z9 := bc1 BK350.out)); refine bodyPost_ret (results_cell_row rfl _ _ gb350 69 #[.slice Ao8 t354.length co8] (0, 0) _ rfl bx Try.underlying69 rfl (by kernel_rfl)) rfl ?_; exact ⟨_, by rfl, by exact Kd.V_mono (Kd.V_far (p := ⟨gb350, 0, none⟩) (Kd.V_mono HO356.out (fun k_ hk => (⟨hk, hk.2⟩ : _ ∧ k_ ≠ gb350))) (fun _ hk => hk.2) (.slice Ao8 t354.length co8)) (fun _ hk => hk.1.1), bw⟩
def spec_l12Vars.l0 : Nat → List ByteArray → List (S69) → Int → Option ((List (S69)))
 | 0, _, _, _ => none
 | k + 1, x0, x3, x4 => if x4 < (x0.length : Int) then (if 0 ≤ x4 then ((spec_l04Var.f (rdOf ByteArray.empty x0 x4)).bind fun t361 => (if x3.length < 5864062014805 then (spec_l12Vars.l0 k x0 (x3 ++ [(⟨t361⟩ : S69)]) (wrap64 (x4 + 1))) else (none))) else (none)) else (some x3)
def spec_l12Vars.f (k : Nat) (l0 : List ByteArray) : Option ((List (S69))) := spec_l12Vars.l0 k l0 (([] : List (S69))) 0
theorem spec_l12Vars.mono_l : ∀ k, (∀ y0 y1 y2, LeO (spec_l12Vars.l0 k y0 y1 y2) (spec_l12Vars.l0 (k + 1) y0 y1 y2))
 | 0 => fun _ _ _ r h => by simp [spec_l12Vars.l0] at h
 | k + 1 => by
  have ih0 := spec_l12Vars.mono_l k
  ·intro y0 y1 y2; unfold spec_l12Vars.l0; repeat' with_reducible first | exact ih0 _ _ _ | exact LeO.refl _ | refine LeO.ite ?_ ?_ | refine LeO.bind ?_ (fun _ => ?_)
theorem spec_l12Vars.mono : ∀ a0 k, LeO (spec_l12Vars.f k a0) (spec_l12Vars.f (k + 1) a0) := by
 intro a0 k; have ih0 := spec_l12Vars.mono_l k; unfold spec_l12Vars.f; repeat' (with_reducible exact ih0 _ _ _)
theorem spec_l12Vars.calls (k : Nat) (A0 : Option Addr) (c0 : Nat) (l0 : List ByteArray) (r : List (S69)) (w : World) (hr0 : Kd.C Kd.string w A0 l0.length l0) (hc0 : l0.length ≤ c0) (h : spec_l12Vars.f k l0 = some r) :
  Calls Try.prog 67 #[.slice A0 l0.length c0] w fun e w' => ∃ v0_ : Value, e = .returned (v0_) ∧ Kd.N k69 69 w' w.heap.size (fun k_ => (w.heap.size ≤ k_)) v0_ r ∧ Below w.heap.size w w' := by
 have HR0 := am hr0; have HC0 := am hc0; clear hr0 hc0; have HB := am (Below.refl w.heap.size w); have H : (spec_l12Vars.l0 k l0 (([] : List (S69))) 0) = some r := h; clear h; obtain ⟨y357, hy357⟩ : ∃ y_ : List (S69), y_ = (([] : List (S69))) := ⟨_, rfl⟩; rw [← hy357] at H; have Ny357 := am hy357; clear hy357; have H' := am H; clear H; go_enter Try.func67, Try.ntmps67; go_wp2_with (((with_reducible refine gate_dst (N := 5) rfl ?_); refine Kd.N_lit k69 _ 69 ?hg (N' := 5) ?hd (xs := ([] : List (S69))) (inner := []) (ok := (fun k_ => (w.heap.size ≤ k_))) (okp := (fun k_ => (w.heap.size ≤ k_))) ?hr ?hp (fun _ hk => hk) ((show ∀ k_, w.heap.size ≤ k_ → (fun k_ => (w.heap.size ≤ k_)) k_ from fun k_ hk => (Nat.le_trans (below_size bw) hk)) _ (Nat.le_refl _)) (Below.refl _ _) (Nat.le_refl _) (by simp) ?_; (case hd => rfl); (case hg => rfl); (case hr => (go_simp; done)); (case hp => exact (Reps.none _ _)); intro v358 w2 ho3 hb hg_ hnew_; clear hg_ hnew_; ((rw [← Ny357.out] at ho3)); have HO359 := am (Kd.N_lower ho3 (below_size bw)); replace HB := am (below_step bw hb); clear hb ho3)); go_loopg [3, 4] k (fun kq v3 v4 w' => ∃ (x3_1 : List (S69)) (x4_1 : Int), v4 = .int .i64 x4_1 ∧ Aside0 (spec_l12Vars.l0 kq l0 x3_1 x4_1 = some r) ∧ Aside0 (kq ≤ k) ∧ Aside0 (Kd.N k69 69 w' w.heap.size (fun k_ => (w.heap.size ≤ k_)) v3 x3_1) ∧ Aside0 (Below w.heap.size w w'))
 case atStart => exact ⟨(y357), (0), (by rfl), H', ⟨Nat.le_refl _⟩, HO359, HB⟩
 case round =>
  clear H'; obtain ⟨x3_1, x4_1, rfl, HA, HK1, HO_3, HB⟩ := hrel
  cases gk with
  | zero => exact absurd HA.out (by simp [spec_l12Vars.l0])
  | succ k1 =>
   have H := HA.out; clear HA; simp only [spec_l12Vars.l0] at H; rcases cd H, H with ⟨⟨c4b0, H⟩ | ⟨c4b0, H⟩, -⟩
   ·rcases cn H, H with ⟨⟨c5b0, H⟩, -⟩; rcases ob H, H with ⟨⟨t361, A6, H⟩, -⟩; rcases cm H, H with ⟨⟨c7, H⟩, -⟩; have LMc7 := am c7; clear c7; obtain ⟨y364, hy364⟩ : ∃ y_ : List (S69), y_ = (x3_1 ++ [(⟨t361⟩ : S69)]) := ⟨_, rfl⟩; rw [← hy364] at H; have Ny364 := am hy364; clear hy364; have H' := am H; clear H; obtain ⟨p360, q360, ad360, e360, hx360_0⟩ := aw_Kstring HB HR0 x4_1 oa oa; cases e360; go_wp2_with (first | ((with_reducible refine gc 31 ?_); refine gl_ 17 Try.func31 #[.string (rdOf ByteArray.empty l0 x4_1)] ?_; (with_reducible refine (spec_l04Var.calls (rdOf ByteArray.empty l0 x4_1) t361 _ A6.out).mono ?_); rintro e w8 ⟨v362, rfl, ho0, hb⟩; refine ⟨_, rfl, ?_⟩; have HO363 := am (Kd.V_lower (Kd.V_mono (ok' := fun k_ => (w.heap.size ≤ k_) ∧ some k_ ≠ (u3 : Value).ownBlock) ho0 (fun k_ hk_ => ⟨(Nat.le_trans (below_size bw) hk_), (Kd.fresh' (Kd.N_lt HO_3.out) k_ hk_)⟩)) (below_size bw)); replace HO_3 := am (Kd.N_below HO_3.out hb); replace HB := am (below_step bw hb); (try clear hb ho0); obtain ⟨Ao10, co10, eo10⟩ := Kd.V_slice HO363.out; subst eo10) | ((with_reducible refine gate_builtin (b := .append) (xs := #[.tmp 12, .tmp 18]) rfl ?_); at_builtin; refine Kd.N_append k69 (w0 := w) w.heap.size rfl (.tmp 12) (.tmp 18) 64 69 (.agg #[(.slice none 0 0)]) 24 rfl Try.underlying64 info69 rfl (by decide) (by omega) u3 x3_1 (⟨t361⟩ : S69) [.slice Ao10 t361.length co10] (fun k_ => (w.heap.size ≤ k_)) (fun k_ => ((fun k_ => (w.heap.size ≤ k_))) k_ ∧ some k_ ≠ (u3 : Value).ownBlock) rfl rfl ?aP (fun _ hk => hk) ?aF ?aO ?aB ?aS ?aL ?_; (case aP => exact (k69_mkF _ _ (⟨t361⟩ : S69) (Kd.V_reads' (Kd.V_mono (ok' := (fun k_ => ((fun k_ => (w.heap.size ≤ k_))) k_ ∧ some k_ ≠ (u3 : Value).ownBlock)) (HO363.out) (fun k_ hk => ⟨hk.1, hk.2⟩))).2.1 (Kd.V_F (Kd.V_mono (ok' := (fun k_ => ((fun k_ => (w.heap.size ≤ k_))) k_ ∧ some k_ ≠ (u3 : Value).ownBlock)) (HO363.out) (fun k_ hk => ⟨hk.1, hk.2⟩))))); (case aB => exact bw); (case aF => exact (fun k_ hk => (Nat.le_trans (below_size bw) hk))); (case aO => exact HO_3.out); (case aS => exact (below_size bw)); (case aL => have := LMc7.out; omega); intro v365 w9 ho hb hg hat; rw [← Ny364.out] at ho; have HO366 := am (ho); replace HO363 := am (Kd.V_afterv (ok := (fun k_ => (w.heap.size ≤ k_))) HO363.out hg hat); replace HB := am (hb); clear HO_3; clear ho hb hg hat)); go_roundg k1
    case measure => have := HK1.out; omega
    case rel => exact ⟨(y364), (wrap64 (x4_1 + 1)), (by rfl), H', ⟨by have := HK1.out; omega⟩, HO366, HB⟩
   ·obtain rfl := si H; go_wp2; go_ret; exact ⟨_, by rfl, by exact HO_3.out, HB.out⟩
end
end Go.Proofs.Ythdoibaeamiepaa.PFnRuleNames
