/- The contract of laws.FnExactOpaque. No condition. -/
import Derived.Test.YtglplgbhhnmgbaaGreatOpqI
import Derived.Test.YtglplgbhhnmgbaaGreatOpqS
import Derived.Test.YtglplgbhhnmgbaaGreatMine2
namespace Go.Proofs.YtglplgbhhnmgbaaGreat
open Go.RowKit Go.Deep
set_option linter.unusedSimpArgs false
set_option linter.unusedVariables false

set_option maxRecDepth 8000 in
set_option maxHeartbeats 16000000 in
theorem law_Opaque (x0 : Script) (cs0 : List Value) (x1 : GWorld) (cs1 : List Value) (w : World) (h0 : Script.R w (fun _ => True) cs0 x0) (h1 : GWorld.R w (fun _ => True) cs1 x1) :
    Calls Tryz.prog 3 #[.agg cs0.toArray, .agg cs1.toArray] w fun e w' => e = .returned (.bool true) ∧ Ext w w' := by
  have H0 := Lib.hid h0
  obtain ⟨A0_0, n0_0, c0_0, A0_1, n0_1, c0_1, A0_2, n0_2, c0_2, A0_3, n0_3, c0_3, rfl⟩ := Script.R_cells h0
  clear h0
  have H1 := Lib.hid h1
  obtain ⟨A1_0, n1_0, c1_0, A1_1, n1_1, c1_1, A1_2, n1_2, c1_2, A1_3, n1_3, c1_3, A1_4, n1_4, c1_4, rfl⟩ := GWorld.R_cells h1
  clear h1
  show Calls Tryz.prog _ #[.agg #[.slice A0_0 n0_0 c0_0, .slice A0_1 n0_1 c0_1, .int .i64 x0.start_.count_, .slice A0_2 n0_2 c0_2, .slice A0_3 n0_3 c0_3], .agg #[.int .i64 x1.now_, .int .i64 x1.token_, .int .i64 x1.mem_.clock_, .slice A1_0 n1_0 c1_0, .slice A1_1 n1_1 c1_1, .int .i64 x1.shelf_.count_, .slice A1_2 n1_2 c1_2, .slice A1_3 n1_3 c1_3, .slice A1_4 n1_4 c1_4]] w _
  go_enter Tryz.func3, Tryz.ntmps3
  go_wp2_with fail
  refine (szScript_any x0 _ (1048576 : Int) _ _ (Script.R_good.ext H0.out (((Ext.refl' w).al _).al _)) (by omega) (by omega)).mono ?_
  rintro e w1 ⟨r0, rfl, Q0, xw1⟩
  replace Q0 := Lib.hid Q0
  have ba0 : Hid (Bx w1 (w.heap.size) 28 #[.slice A0_0 n0_0 c0_0, .slice A0_1 n0_1 c0_1, .int .i64 x0.start_.count_, .slice A0_2 n0_2 c0_2, .slice A0_3 n0_3 c0_3]) := Bx.ext ((Bx.new' _ _ _ rfl).al _) xw1
  have ba1 : Hid (Bx w1 (w.heap.size + 1) 38 #[.int .i64 x1.now_, .int .i64 x1.token_, .int .i64 x1.mem_.clock_, .slice A1_0 n1_0 c1_0, .slice A1_1 n1_1 c1_1, .int .i64 x1.shelf_.count_, .slice A1_2 n1_2 c1_2, .slice A1_3 n1_3 c1_3, .slice A1_4 n1_4 c1_4]) := Bx.ext (Bx.new' _ _ _ (by simp)) xw1
  have X1 : Hid (Ext w w1) := (((Ext.refl' w).al _).al _).tr xw1
  clear xw1
  by_cases g0 : 0 ≤ r0
  rotate_left
  · have e0 : r0 = -1 := by have a := Q0.out; unfold Left at a; omega
    subst e0
    clear g0
    go_wp2
    go_ret
    exact ⟨rfl, (X1.out.tr (Ext.refl' w1))⟩
  have N0 : Script.wt x0 ≤ 1048576 := by have a := Q0.out; unfold Left at a; omega
  have u0 : r0 ≤ 1048576 := by have a := Q0.out; unfold Left at a; omega
  have ea1_0 : w1.cell? ⟨w.heap.size + 1, 0, none⟩ = some (.int .i64 x1.now_) := ba1.out.cell 0
  have ea1_1 : w1.cell? ⟨w.heap.size + 1, 1, none⟩ = some (.int .i64 x1.token_) := ba1.out.cell 1
  have ea1_2 : w1.cell? ⟨w.heap.size + 1, 2, none⟩ = some (.int .i64 x1.mem_.clock_) := ba1.out.cell 2
  have ea1_3 : w1.cell? ⟨w.heap.size + 1, 3, none⟩ = some (.slice A1_0 n1_0 c1_0) := ba1.out.cell 3
  have ea1_4 : w1.cell? ⟨w.heap.size + 1, 4, none⟩ = some (.slice A1_1 n1_1 c1_1) := ba1.out.cell 4
  have ea1_5 : w1.cell? ⟨w.heap.size + 1, 5, none⟩ = some (.int .i64 x1.shelf_.count_) := ba1.out.cell 5
  have ea1_6 : w1.cell? ⟨w.heap.size + 1, 6, none⟩ = some (.slice A1_2 n1_2 c1_2) := ba1.out.cell 6
  have ea1_7 : w1.cell? ⟨w.heap.size + 1, 7, none⟩ = some (.slice A1_3 n1_3 c1_3) := ba1.out.cell 7
  have ea1_8 : w1.cell? ⟨w.heap.size + 1, 8, none⟩ = some (.slice A1_4 n1_4 c1_4) := ba1.out.cell 8
  go_wp2_with fail
  refine (szGWorld_any x1 _ r0 _ _ (GWorld.R_good.ext H1.out (X1.out.tr (Ext.refl' w1))) g0 u0).mono ?_
  rintro e w2 ⟨r1, rfl, Q1, xw2⟩
  replace Q1 := Lib.hid Q1
  clear ea1_0 ea1_1 ea1_2 ea1_3 ea1_4 ea1_5 ea1_6 ea1_7 ea1_8
  replace ba0 := Lib.hid (ba0.out.ext (Ext.tr (Ext.refl' w1) xw2))
  replace ba1 := Lib.hid (ba1.out.ext (Ext.tr (Ext.refl' w1) xw2))
  have X2 : Hid (Ext w w2) := (X1.out.tr (Ext.refl' w1)).tr xw2
  clear xw2
  by_cases g1 : 0 ≤ r1
  rotate_left
  · have e1 : r1 = -1 := by have a := Q1.out; unfold Left at a; omega
    subst e1
    clear g1
    go_wp2
    go_ret
    exact ⟨rfl, (X2.out.tr (Ext.refl' w2))⟩
  have N1 : GWorld.wt x1 ≤ 1048576 := by have a := Q1.out; unfold Left at a; omega
  have u1 : r1 ≤ 1048576 := by have a := Q1.out; unfold Left at a; omega
  have ea0_0 : w2.cell? ⟨w.heap.size, 0, none⟩ = some (.slice A0_0 n0_0 c0_0) := ba0.out.cell 0
  have ea0_1 : w2.cell? ⟨w.heap.size, 1, none⟩ = some (.slice A0_1 n0_1 c0_1) := ba0.out.cell 1
  have ea0_2 : w2.cell? ⟨w.heap.size, 2, none⟩ = some (.int .i64 x0.start_.count_) := ba0.out.cell 2
  have ea0_3 : w2.cell? ⟨w.heap.size, 3, none⟩ = some (.slice A0_2 n0_2 c0_2) := ba0.out.cell 3
  have ea0_4 : w2.cell? ⟨w.heap.size, 4, none⟩ = some (.slice A0_3 n0_3 c0_3) := ba0.out.cell 4
  have ea1_0 : w2.cell? ⟨w.heap.size + 1, 0, none⟩ = some (.int .i64 x1.now_) := ba1.out.cell 0
  have ea1_1 : w2.cell? ⟨w.heap.size + 1, 1, none⟩ = some (.int .i64 x1.token_) := ba1.out.cell 1
  have ea1_2 : w2.cell? ⟨w.heap.size + 1, 2, none⟩ = some (.int .i64 x1.mem_.clock_) := ba1.out.cell 2
  have ea1_3 : w2.cell? ⟨w.heap.size + 1, 3, none⟩ = some (.slice A1_0 n1_0 c1_0) := ba1.out.cell 3
  have ea1_4 : w2.cell? ⟨w.heap.size + 1, 4, none⟩ = some (.slice A1_1 n1_1 c1_1) := ba1.out.cell 4
  have ea1_5 : w2.cell? ⟨w.heap.size + 1, 5, none⟩ = some (.int .i64 x1.shelf_.count_) := ba1.out.cell 5
  have ea1_6 : w2.cell? ⟨w.heap.size + 1, 6, none⟩ = some (.slice A1_2 n1_2 c1_2) := ba1.out.cell 6
  have ea1_7 : w2.cell? ⟨w.heap.size + 1, 7, none⟩ = some (.slice A1_3 n1_3 c1_3) := ba1.out.cell 7
  have ea1_8 : w2.cell? ⟨w.heap.size + 1, 8, none⟩ = some (.slice A1_4 n1_4 c1_4) := ba1.out.cell 8
  go_wp2_with fail
  go_region_with (first | (go_at_call 7; refine (toScript_any x0 _ _ _ (Script.R_good.ext H0.out (X2.out.tr ((Ext.refl' w2).dr))) N0).mono ?_; rintro e w3 ⟨cv, rfl, o3, x3⟩; replace o3 := Lib.hid o3; obtain ⟨B3_0, p3_0, d3_0, B3_1, p3_1, d3_1, B3_2, p3_2, d3_2, B3_3, p3_3, d3_3, rfl⟩ := Script.W_cells o3.out; have bq : Hid (Bx w3 (w.heap.size + 1) 38 #[.int .i64 x1.now_, .int .i64 x1.token_, .int .i64 x1.mem_.clock_, .slice A1_0 n1_0 c1_0, .slice A1_1 n1_1 c1_1, .int .i64 x1.shelf_.count_, .slice A1_2 n1_2 c1_2, .slice A1_3 n1_3 c1_3, .slice A1_4 n1_4 c1_4]) := Bx.ext ((ba1.out.ext ((Ext.refl' w2).dr))) x3; have eq_0 : w3.cell? ⟨w.heap.size + 1, 0, none⟩ = some (.int .i64 x1.now_) := bq.out.cell 0; have eq_1 : w3.cell? ⟨w.heap.size + 1, 1, none⟩ = some (.int .i64 x1.token_) := bq.out.cell 1; have eq_2 : w3.cell? ⟨w.heap.size + 1, 2, none⟩ = some (.int .i64 x1.mem_.clock_) := bq.out.cell 2; have eq_3 : w3.cell? ⟨w.heap.size + 1, 3, none⟩ = some (.slice A1_0 n1_0 c1_0) := bq.out.cell 3; have eq_4 : w3.cell? ⟨w.heap.size + 1, 4, none⟩ = some (.slice A1_1 n1_1 c1_1) := bq.out.cell 4; have eq_5 : w3.cell? ⟨w.heap.size + 1, 5, none⟩ = some (.int .i64 x1.shelf_.count_) := bq.out.cell 5; have eq_6 : w3.cell? ⟨w.heap.size + 1, 6, none⟩ = some (.slice A1_2 n1_2 c1_2) := bq.out.cell 6; have eq_7 : w3.cell? ⟨w.heap.size + 1, 7, none⟩ = some (.slice A1_3 n1_3 c1_3) := bq.out.cell 7; have eq_8 : w3.cell? ⟨w.heap.size + 1, 8, none⟩ = some (.slice A1_4 n1_4 c1_4) := bq.out.cell 8) | (go_at_call 8; refine (toGWorld_any x1 _ _ _ (GWorld.R_good.ext H1.out (Ext.tr ((X2.out.tr ((Ext.refl' w2).dr))) x3)) N1).mono ?_; rintro e w4 ⟨cv, rfl, o4, x4⟩; replace o4 := Lib.hid o4; obtain ⟨B4_0, p4_0, d4_0, B4_1, p4_1, d4_1, B4_2, p4_2, d4_2, B4_3, p4_3, d4_3, B4_4, p4_4, d4_4, rfl⟩ := GWorld.W_cells o4.out) | (go_at_call 6; refine (spec_Opaque x0 _ x1 _ _ _ (Script.W_R (Script.W_good.ext o3.out x4)) N0 _ (GWorld.W_R o4.out) N1).mono ?_; rintro e w5 ⟨rfl, x5⟩))
  all_goals
    clear bq eq_0 eq_1 eq_2 eq_3 eq_4 eq_5 eq_6 eq_7 eq_8
    replace x5 := Ext.tr (Ext.tr x3 x4) x5
    clear o3 o4
    clear ea0_0 ea0_1 ea0_2 ea0_3 ea0_4 ea1_0 ea1_1 ea1_2 ea1_3 ea1_4 ea1_5 ea1_6 ea1_7 ea1_8
    replace ba0 := Lib.hid (ba0.out.ext (Ext.tr ((Ext.refl' w2).dr) x5))
    replace ba1 := Lib.hid (ba1.out.ext (Ext.tr ((Ext.refl' w2).dr) x5))
    have X5 : Hid (Ext w w5) := (X2.out.tr ((Ext.refl' w2).dr)).tr x5
    clear x5
    have ea0_0 : w5.cell? ⟨w.heap.size, 0, none⟩ = some (.slice A0_0 n0_0 c0_0) := ba0.out.cell 0
    have ea0_1 : w5.cell? ⟨w.heap.size, 1, none⟩ = some (.slice A0_1 n0_1 c0_1) := ba0.out.cell 1
    have ea0_2 : w5.cell? ⟨w.heap.size, 2, none⟩ = some (.int .i64 x0.start_.count_) := ba0.out.cell 2
    have ea0_3 : w5.cell? ⟨w.heap.size, 3, none⟩ = some (.slice A0_2 n0_2 c0_2) := ba0.out.cell 3
    have ea0_4 : w5.cell? ⟨w.heap.size, 4, none⟩ = some (.slice A0_3 n0_3 c0_3) := ba0.out.cell 4
    go_wp2_with fail
    refine (toScript_any x0 _ _ _ (Script.R_good.ext H0.out (X5.out.tr (Ext.refl' w5))) N0).mono ?_
    rintro e w6 ⟨cv, rfl, o6, x6⟩
    replace o6 := Lib.hid o6
    obtain ⟨B6_0, p6_0, d6_0, B6_1, p6_1, d6_1, B6_2, p6_2, d6_2, B6_3, p6_3, d6_3, rfl⟩ := Script.W_cells o6.out
    clear ea0_0 ea0_1 ea0_2 ea0_3 ea0_4
    replace ba0 := Lib.hid (ba0.out.ext (Ext.tr (Ext.refl' w5) x6))
    replace ba1 := Lib.hid (ba1.out.ext (Ext.tr (Ext.refl' w5) x6))
    have X6 : Hid (Ext w w6) := (X5.out.tr (Ext.refl' w5)).tr x6
    clear x6
    have la1 : w.heap.size + 1 < w6.heap.size := ba1.out.lt
    have ea1_0 : w6.cell? ⟨w.heap.size + 1, 0, none⟩ = some (.int .i64 x1.now_) := ba1.out.cell 0
    have ea1_1 : w6.cell? ⟨w.heap.size + 1, 1, none⟩ = some (.int .i64 x1.token_) := ba1.out.cell 1
    have ea1_2 : w6.cell? ⟨w.heap.size + 1, 2, none⟩ = some (.int .i64 x1.mem_.clock_) := ba1.out.cell 2
    have ea1_3 : w6.cell? ⟨w.heap.size + 1, 3, none⟩ = some (.slice A1_0 n1_0 c1_0) := ba1.out.cell 3
    have ea1_4 : w6.cell? ⟨w.heap.size + 1, 4, none⟩ = some (.slice A1_1 n1_1 c1_1) := ba1.out.cell 4
    have ea1_5 : w6.cell? ⟨w.heap.size + 1, 5, none⟩ = some (.int .i64 x1.shelf_.count_) := ba1.out.cell 5
    have ea1_6 : w6.cell? ⟨w.heap.size + 1, 6, none⟩ = some (.slice A1_2 n1_2 c1_2) := ba1.out.cell 6
    have ea1_7 : w6.cell? ⟨w.heap.size + 1, 7, none⟩ = some (.slice A1_3 n1_3 c1_3) := ba1.out.cell 7
    have ea1_8 : w6.cell? ⟨w.heap.size + 1, 8, none⟩ = some (.slice A1_4 n1_4 c1_4) := ba1.out.cell 8
    go_wp2_with fail
    refine (toGWorld_any x1 _ _ _ (GWorld.R_good.ext H1.out (X6.out.tr ((Ext.refl' w6).al _))) N1).mono ?_
    rintro e w7 ⟨cv, rfl, o7, x7⟩
    replace o7 := Lib.hid o7
    obtain ⟨B7_0, p7_0, d7_0, B7_1, p7_1, d7_1, B7_2, p7_2, d7_2, B7_3, p7_3, d7_3, B7_4, p7_4, d7_4, rfl⟩ := GWorld.W_cells o7.out
    clear la1 ea1_0 ea1_1 ea1_2 ea1_3 ea1_4 ea1_5 ea1_6 ea1_7 ea1_8
    replace ba0 := Lib.hid (ba0.out.ext (Ext.tr ((Ext.refl' w6).al _) x7))
    replace ba1 := Lib.hid (ba1.out.ext (Ext.tr ((Ext.refl' w6).al _) x7))
    have bx0 : Hid (Bx w7 (w6.heap.size) 46 #[.slice B6_0 p6_0 d6_0, .slice B6_1 p6_1 d6_1, .int .i64 x0.start_.count_, .slice B6_2 p6_2 d6_2, .slice B6_3 p6_3 d6_3]) := Bx.ext (Bx.new' _ _ _ rfl) x7
    replace o6 := Lib.hid (Script.W_good.ext o6.out (Ext.tr ((Ext.refl' w6).al _) x7))
    have X7 : Hid (Ext w w7) := (X6.out.tr ((Ext.refl' w6).al _)).tr x7
    clear x7
    have lx0 : w6.heap.size < w7.heap.size := bx0.out.lt
    have ex0_0 : w7.cell? ⟨w6.heap.size, 0, none⟩ = some (.slice B6_0 p6_0 d6_0) := bx0.out.cell 0
    have ex0_1 : w7.cell? ⟨w6.heap.size, 1, none⟩ = some (.slice B6_1 p6_1 d6_1) := bx0.out.cell 1
    have ex0_2 : w7.cell? ⟨w6.heap.size, 2, none⟩ = some (.int .i64 x0.start_.count_) := bx0.out.cell 2
    have ex0_3 : w7.cell? ⟨w6.heap.size, 3, none⟩ = some (.slice B6_2 p6_2 d6_2) := bx0.out.cell 3
    have ex0_4 : w7.cell? ⟨w6.heap.size, 4, none⟩ = some (.slice B6_3 p6_3 d6_3) := bx0.out.cell 4
    go_wp2_with fail
    refine (impl_Opaque x0 _ x1 _ _ _ (Script.W_R (Script.W_good.ext o6.out ((Ext.refl' w7).al _))) N0 _ (GWorld.W_R (GWorld.W_good.ext o7.out ((Ext.refl' w7).al _))) N1).mono ?_
    rintro e w8 ⟨rfl, x8⟩
    clear lx0 ex0_0 ex0_1 ex0_2 ex0_3 ex0_4
    replace ba0 := Lib.hid (ba0.out.ext (Ext.tr ((Ext.refl' w7).al _) x8))
    replace ba1 := Lib.hid (ba1.out.ext (Ext.tr ((Ext.refl' w7).al _) x8))
    replace bx0 := Lib.hid (bx0.out.ext (Ext.tr ((Ext.refl' w7).al _) x8))
    have bx1 : Hid (Bx w8 (w7.heap.size) 56 #[.int .i64 x1.now_, .int .i64 x1.token_, .int .i64 x1.mem_.clock_, .slice B7_0 p7_0 d7_0, .slice B7_1 p7_1 d7_1, .int .i64 x1.shelf_.count_, .slice B7_2 p7_2 d7_2, .slice B7_3 p7_3 d7_3, .slice B7_4 p7_4 d7_4]) := Bx.ext (Bx.new' _ _ _ rfl) x8
    replace o6 := Lib.hid (Script.W_good.ext o6.out (Ext.tr ((Ext.refl' w7).al _) x8))
    replace o7 := Lib.hid (GWorld.W_good.ext o7.out (Ext.tr ((Ext.refl' w7).al _) x8))
    have X8 : Hid (Ext w w8) := (X7.out.tr ((Ext.refl' w7).al _)).tr x8
    clear x8
    have ex0_0 : w8.cell? ⟨w6.heap.size, 0, none⟩ = some (.slice B6_0 p6_0 d6_0) := bx0.out.cell 0
    have ex0_1 : w8.cell? ⟨w6.heap.size, 1, none⟩ = some (.slice B6_1 p6_1 d6_1) := bx0.out.cell 1
    have ex0_2 : w8.cell? ⟨w6.heap.size, 2, none⟩ = some (.int .i64 x0.start_.count_) := bx0.out.cell 2
    have ex0_3 : w8.cell? ⟨w6.heap.size, 3, none⟩ = some (.slice B6_2 p6_2 d6_2) := bx0.out.cell 3
    have ex0_4 : w8.cell? ⟨w6.heap.size, 4, none⟩ = some (.slice B6_3 p6_3 d6_3) := bx0.out.cell 4
    have ea0_0 : w8.cell? ⟨w.heap.size, 0, none⟩ = some (.slice A0_0 n0_0 c0_0) := ba0.out.cell 0
    have ea0_1 : w8.cell? ⟨w.heap.size, 1, none⟩ = some (.slice A0_1 n0_1 c0_1) := ba0.out.cell 1
    have ea0_2 : w8.cell? ⟨w.heap.size, 2, none⟩ = some (.int .i64 x0.start_.count_) := ba0.out.cell 2
    have ea0_3 : w8.cell? ⟨w.heap.size, 3, none⟩ = some (.slice A0_2 n0_2 c0_2) := ba0.out.cell 3
    have ea0_4 : w8.cell? ⟨w.heap.size, 4, none⟩ = some (.slice A0_3 n0_3 c0_3) := ba0.out.cell 4
    go_wp2_with fail
    go_region_with (first | (go_at_call 7; refine (toScript_any x0 _ _ _ (Script.R_good.ext H0.out (X8.out.tr ((Ext.refl' w8).dr))) N0).mono ?_; rintro e w9 ⟨cv, rfl, o9, x9⟩; replace o9 := Lib.hid o9; obtain ⟨B9_0, p9_0, d9_0, B9_1, p9_1, d9_1, B9_2, p9_2, d9_2, B9_3, p9_3, d9_3, rfl⟩ := Script.W_cells o9.out; have bq : Hid (Bx w9 (w6.heap.size) 46 #[.slice B6_0 p6_0 d6_0, .slice B6_1 p6_1 d6_1, .int .i64 x0.start_.count_, .slice B6_2 p6_2 d6_2, .slice B6_3 p6_3 d6_3]) := Bx.ext ((bx0.out.ext ((Ext.refl' w8).dr))) x9; have eq_0 : w9.cell? ⟨w6.heap.size, 0, none⟩ = some (.slice B6_0 p6_0 d6_0) := bq.out.cell 0; have eq_1 : w9.cell? ⟨w6.heap.size, 1, none⟩ = some (.slice B6_1 p6_1 d6_1) := bq.out.cell 1; have eq_2 : w9.cell? ⟨w6.heap.size, 2, none⟩ = some (.int .i64 x0.start_.count_) := bq.out.cell 2; have eq_3 : w9.cell? ⟨w6.heap.size, 3, none⟩ = some (.slice B6_2 p6_2 d6_2) := bq.out.cell 3; have eq_4 : w9.cell? ⟨w6.heap.size, 4, none⟩ = some (.slice B6_3 p6_3 d6_3) := bq.out.cell 4) | (go_at_call 10; refine (eqScript_same x0 _ _ _ _ _ (Script.W_R (Script.W_good.ext o6.out (Ext.tr ((Ext.refl' w8).dr) x9))) (Script.W_R o9.out)).mono ?_; rintro e w10 ⟨rfl, x10⟩))
    all_goals
      clear bq eq_0 eq_1 eq_2 eq_3 eq_4
      replace x10 := Ext.tr x9 x10
      clear o9
      clear ex0_0 ex0_1 ex0_2 ex0_3 ex0_4 ea0_0 ea0_1 ea0_2 ea0_3 ea0_4
      replace ba0 := Lib.hid (ba0.out.ext (Ext.tr ((Ext.refl' w8).dr) x10))
      replace ba1 := Lib.hid (ba1.out.ext (Ext.tr ((Ext.refl' w8).dr) x10))
      replace bx0 := Lib.hid (bx0.out.ext (Ext.tr ((Ext.refl' w8).dr) x10))
      replace bx1 := Lib.hid (bx1.out.ext (Ext.tr ((Ext.refl' w8).dr) x10))
      replace o6 := Lib.hid (Script.W_good.ext o6.out (Ext.tr ((Ext.refl' w8).dr) x10))
      replace o7 := Lib.hid (GWorld.W_good.ext o7.out (Ext.tr ((Ext.refl' w8).dr) x10))
      have X10 : Hid (Ext w w10) := (X8.out.tr ((Ext.refl' w8).dr)).tr x10
      clear x10
      have ex1_0 : w10.cell? ⟨w7.heap.size, 0, none⟩ = some (.int .i64 x1.now_) := bx1.out.cell 0
      have ex1_1 : w10.cell? ⟨w7.heap.size, 1, none⟩ = some (.int .i64 x1.token_) := bx1.out.cell 1
      have ex1_2 : w10.cell? ⟨w7.heap.size, 2, none⟩ = some (.int .i64 x1.mem_.clock_) := bx1.out.cell 2
      have ex1_3 : w10.cell? ⟨w7.heap.size, 3, none⟩ = some (.slice B7_0 p7_0 d7_0) := bx1.out.cell 3
      have ex1_4 : w10.cell? ⟨w7.heap.size, 4, none⟩ = some (.slice B7_1 p7_1 d7_1) := bx1.out.cell 4
      have ex1_5 : w10.cell? ⟨w7.heap.size, 5, none⟩ = some (.int .i64 x1.shelf_.count_) := bx1.out.cell 5
      have ex1_6 : w10.cell? ⟨w7.heap.size, 6, none⟩ = some (.slice B7_2 p7_2 d7_2) := bx1.out.cell 6
      have ex1_7 : w10.cell? ⟨w7.heap.size, 7, none⟩ = some (.slice B7_3 p7_3 d7_3) := bx1.out.cell 7
      have ex1_8 : w10.cell? ⟨w7.heap.size, 8, none⟩ = some (.slice B7_4 p7_4 d7_4) := bx1.out.cell 8
      have ea1_0 : w10.cell? ⟨w.heap.size + 1, 0, none⟩ = some (.int .i64 x1.now_) := ba1.out.cell 0
      have ea1_1 : w10.cell? ⟨w.heap.size + 1, 1, none⟩ = some (.int .i64 x1.token_) := ba1.out.cell 1
      have ea1_2 : w10.cell? ⟨w.heap.size + 1, 2, none⟩ = some (.int .i64 x1.mem_.clock_) := ba1.out.cell 2
      have ea1_3 : w10.cell? ⟨w.heap.size + 1, 3, none⟩ = some (.slice A1_0 n1_0 c1_0) := ba1.out.cell 3
      have ea1_4 : w10.cell? ⟨w.heap.size + 1, 4, none⟩ = some (.slice A1_1 n1_1 c1_1) := ba1.out.cell 4
      have ea1_5 : w10.cell? ⟨w.heap.size + 1, 5, none⟩ = some (.int .i64 x1.shelf_.count_) := ba1.out.cell 5
      have ea1_6 : w10.cell? ⟨w.heap.size + 1, 6, none⟩ = some (.slice A1_2 n1_2 c1_2) := ba1.out.cell 6
      have ea1_7 : w10.cell? ⟨w.heap.size + 1, 7, none⟩ = some (.slice A1_3 n1_3 c1_3) := ba1.out.cell 7
      have ea1_8 : w10.cell? ⟨w.heap.size + 1, 8, none⟩ = some (.slice A1_4 n1_4 c1_4) := ba1.out.cell 8
      go_wp2_with fail
      go_region_with (first | (go_at_call 8; refine (toGWorld_any x1 _ _ _ (GWorld.R_good.ext H1.out (X10.out.tr ((Ext.refl' w10).dr))) N1).mono ?_; rintro e w11 ⟨cv, rfl, o11, x11⟩; replace o11 := Lib.hid o11; obtain ⟨B11_0, p11_0, d11_0, B11_1, p11_1, d11_1, B11_2, p11_2, d11_2, B11_3, p11_3, d11_3, B11_4, p11_4, d11_4, rfl⟩ := GWorld.W_cells o11.out; have bq : Hid (Bx w11 (w7.heap.size) 56 #[.int .i64 x1.now_, .int .i64 x1.token_, .int .i64 x1.mem_.clock_, .slice B7_0 p7_0 d7_0, .slice B7_1 p7_1 d7_1, .int .i64 x1.shelf_.count_, .slice B7_2 p7_2 d7_2, .slice B7_3 p7_3 d7_3, .slice B7_4 p7_4 d7_4]) := Bx.ext ((bx1.out.ext ((Ext.refl' w10).dr))) x11; have eq_0 : w11.cell? ⟨w7.heap.size, 0, none⟩ = some (.int .i64 x1.now_) := bq.out.cell 0; have eq_1 : w11.cell? ⟨w7.heap.size, 1, none⟩ = some (.int .i64 x1.token_) := bq.out.cell 1; have eq_2 : w11.cell? ⟨w7.heap.size, 2, none⟩ = some (.int .i64 x1.mem_.clock_) := bq.out.cell 2; have eq_3 : w11.cell? ⟨w7.heap.size, 3, none⟩ = some (.slice B7_0 p7_0 d7_0) := bq.out.cell 3; have eq_4 : w11.cell? ⟨w7.heap.size, 4, none⟩ = some (.slice B7_1 p7_1 d7_1) := bq.out.cell 4; have eq_5 : w11.cell? ⟨w7.heap.size, 5, none⟩ = some (.int .i64 x1.shelf_.count_) := bq.out.cell 5; have eq_6 : w11.cell? ⟨w7.heap.size, 6, none⟩ = some (.slice B7_2 p7_2 d7_2) := bq.out.cell 6; have eq_7 : w11.cell? ⟨w7.heap.size, 7, none⟩ = some (.slice B7_3 p7_3 d7_3) := bq.out.cell 7; have eq_8 : w11.cell? ⟨w7.heap.size, 8, none⟩ = some (.slice B7_4 p7_4 d7_4) := bq.out.cell 8) | (go_at_call 11; refine (eqGWorld_same x1 _ _ _ _ _ (GWorld.W_R (GWorld.W_good.ext o7.out (Ext.tr ((Ext.refl' w10).dr) x11))) (GWorld.W_R o11.out)).mono ?_; rintro e w12 ⟨rfl, x12⟩))
      all_goals
        clear bq eq_0 eq_1 eq_2 eq_3 eq_4 eq_5 eq_6 eq_7 eq_8
        replace x12 := Ext.tr x11 x12
        clear o11
        clear ex1_0 ex1_1 ex1_2 ex1_3 ex1_4 ex1_5 ex1_6 ex1_7 ex1_8 ea1_0 ea1_1 ea1_2 ea1_3 ea1_4 ea1_5 ea1_6 ea1_7 ea1_8
        replace ba0 := Lib.hid (ba0.out.ext (Ext.tr ((Ext.refl' w10).dr) x12))
        replace ba1 := Lib.hid (ba1.out.ext (Ext.tr ((Ext.refl' w10).dr) x12))
        replace bx0 := Lib.hid (bx0.out.ext (Ext.tr ((Ext.refl' w10).dr) x12))
        replace bx1 := Lib.hid (bx1.out.ext (Ext.tr ((Ext.refl' w10).dr) x12))
        replace o6 := Lib.hid (Script.W_good.ext o6.out (Ext.tr ((Ext.refl' w10).dr) x12))
        replace o7 := Lib.hid (GWorld.W_good.ext o7.out (Ext.tr ((Ext.refl' w10).dr) x12))
        have X12 : Hid (Ext w w12) := (X10.out.tr ((Ext.refl' w10).dr)).tr x12
        clear x12
        go_wp2
        go_ret
        exact ⟨rfl, (X12.out.tr (Ext.refl' w12))⟩

end Go.Proofs.YtglplgbhhnmgbaaGreat
