/- The contract of laws.FnExactRealTime. No condition. -/
import Derived.Test.YtfacckjfoajijaaWReal
import Derived.Test.YtfacckjfoajijaaWRealS
import Derived.Test.YtfacckjfoajijaaMine2
namespace Go.Proofs.Ytfacckjfoajijaa
open Go.RowKit Go.Deep
set_option linter.unusedSimpArgs false
set_option linter.unusedVariables false

set_option maxRecDepth 8000 in
set_option maxHeartbeats 16000000 in
theorem law_RealTime (x0 : GWorld) (cs0 : List Value) (w : World) (h0 : GWorld.R w (fun _ => True) cs0 x0) :
    Calls Try.prog 7 #[.agg cs0.toArray] w fun e w' => e = .returned (.bool true) ∧ Ext w w' := by
  have H0 := Lib.hid h0
  obtain ⟨A0_0, n0_0, c0_0, A0_1, n0_1, c0_1, A0_2, n0_2, c0_2, A0_3, n0_3, c0_3, A0_4, n0_4, c0_4, rfl⟩ := GWorld.R_cells h0
  clear h0
  show Calls Try.prog _ #[.agg #[.int .i64 x0.now_, .int .i64 x0.token_, .int .i64 x0.mem_.clock_, .slice A0_0 n0_0 c0_0, .slice A0_1 n0_1 c0_1, .int .i64 x0.shelf_.count_, .slice A0_2 n0_2 c0_2, .slice A0_3 n0_3 c0_3, .slice A0_4 n0_4 c0_4]] w _
  go_enter Try.func7, Try.ntmps7
  go_wp2_with fail
  refine (szGWorld_any x0 _ (1048576 : Int) _ _ (GWorld.R_good.ext H0.out ((Ext.refl' w).al _)) (by omega) (by omega)).mono ?_
  rintro e w1 ⟨r0, rfl, Q0, xw1⟩
  replace Q0 := Lib.hid Q0
  have ba0 : Hid (Bx w1 (w.heap.size) 63 #[.int .i64 x0.now_, .int .i64 x0.token_, .int .i64 x0.mem_.clock_, .slice A0_0 n0_0 c0_0, .slice A0_1 n0_1 c0_1, .int .i64 x0.shelf_.count_, .slice A0_2 n0_2 c0_2, .slice A0_3 n0_3 c0_3, .slice A0_4 n0_4 c0_4]) := Bx.ext (Bx.new' _ _ _ rfl) xw1
  have X1 : Hid (Ext w w1) := ((Ext.refl' w).al _).tr xw1
  clear xw1
  by_cases g0 : 0 ≤ r0
  rotate_left
  · have e0 : r0 = -1 := by have a := Q0.out; unfold Left at a; omega
    subst e0
    clear g0
    go_wp2
    go_ret
    exact ⟨rfl, (X1.out.tr (Ext.refl' w1))⟩
  have N0 : GWorld.wt x0 ≤ 1048576 := by have a := Q0.out; unfold Left at a; omega
  have u0 : r0 ≤ 1048576 := by have a := Q0.out; unfold Left at a; omega
  have ea0_0 : w1.cell? ⟨w.heap.size, 0, none⟩ = some (.int .i64 x0.now_) := ba0.out.cell 0
  have ea0_1 : w1.cell? ⟨w.heap.size, 1, none⟩ = some (.int .i64 x0.token_) := ba0.out.cell 1
  have ea0_2 : w1.cell? ⟨w.heap.size, 2, none⟩ = some (.int .i64 x0.mem_.clock_) := ba0.out.cell 2
  have ea0_3 : w1.cell? ⟨w.heap.size, 3, none⟩ = some (.slice A0_0 n0_0 c0_0) := ba0.out.cell 3
  have ea0_4 : w1.cell? ⟨w.heap.size, 4, none⟩ = some (.slice A0_1 n0_1 c0_1) := ba0.out.cell 4
  have ea0_5 : w1.cell? ⟨w.heap.size, 5, none⟩ = some (.int .i64 x0.shelf_.count_) := ba0.out.cell 5
  have ea0_6 : w1.cell? ⟨w.heap.size, 6, none⟩ = some (.slice A0_2 n0_2 c0_2) := ba0.out.cell 6
  have ea0_7 : w1.cell? ⟨w.heap.size, 7, none⟩ = some (.slice A0_3 n0_3 c0_3) := ba0.out.cell 7
  have ea0_8 : w1.cell? ⟨w.heap.size, 8, none⟩ = some (.slice A0_4 n0_4 c0_4) := ba0.out.cell 8
  go_wp2_with fail
  refine (toGWorld_any x0 _ _ _ (GWorld.R_good.ext H0.out (X1.out.tr (Ext.refl' w1))) N0).mono ?_
  rintro e w2 ⟨cv, rfl, o2, x2⟩
  replace o2 := Lib.hid o2
  obtain ⟨B2_0, p2_0, d2_0, B2_1, p2_1, d2_1, B2_2, p2_2, d2_2, B2_3, p2_3, d2_3, B2_4, p2_4, d2_4, rfl⟩ := GWorld.W_cells o2.out
  clear ea0_0 ea0_1 ea0_2 ea0_3 ea0_4 ea0_5 ea0_6 ea0_7 ea0_8
  replace ba0 := Lib.hid (ba0.out.ext (Ext.tr (Ext.refl' w1) x2))
  have X2 : Hid (Ext w w2) := (X1.out.tr (Ext.refl' w1)).tr x2
  clear x2
  go_wp2_with fail
  refine (spec_RealTime x0 _ _ _ (GWorld.W_R (GWorld.W_good.ext o2.out (Ext.refl' w2))) N0).mono ?_
  rintro e w3 ⟨rfl, x3⟩
  replace ba0 := Lib.hid (ba0.out.ext (Ext.tr (Ext.refl' w2) x3))
  replace o2 := Lib.hid (GWorld.W_good.ext o2.out (Ext.tr (Ext.refl' w2) x3))
  have X3 : Hid (Ext w w3) := (X2.out.tr (Ext.refl' w2)).tr x3
  clear x3
  clear o2
  have ea0_0 : w3.cell? ⟨w.heap.size, 0, none⟩ = some (.int .i64 x0.now_) := ba0.out.cell 0
  have ea0_1 : w3.cell? ⟨w.heap.size, 1, none⟩ = some (.int .i64 x0.token_) := ba0.out.cell 1
  have ea0_2 : w3.cell? ⟨w.heap.size, 2, none⟩ = some (.int .i64 x0.mem_.clock_) := ba0.out.cell 2
  have ea0_3 : w3.cell? ⟨w.heap.size, 3, none⟩ = some (.slice A0_0 n0_0 c0_0) := ba0.out.cell 3
  have ea0_4 : w3.cell? ⟨w.heap.size, 4, none⟩ = some (.slice A0_1 n0_1 c0_1) := ba0.out.cell 4
  have ea0_5 : w3.cell? ⟨w.heap.size, 5, none⟩ = some (.int .i64 x0.shelf_.count_) := ba0.out.cell 5
  have ea0_6 : w3.cell? ⟨w.heap.size, 6, none⟩ = some (.slice A0_2 n0_2 c0_2) := ba0.out.cell 6
  have ea0_7 : w3.cell? ⟨w.heap.size, 7, none⟩ = some (.slice A0_3 n0_3 c0_3) := ba0.out.cell 7
  have ea0_8 : w3.cell? ⟨w.heap.size, 8, none⟩ = some (.slice A0_4 n0_4 c0_4) := ba0.out.cell 8
  go_wp2_with fail
  refine (toGWorld_any x0 _ _ _ (GWorld.R_good.ext H0.out (X3.out.tr (Ext.refl' w3))) N0).mono ?_
  rintro e w4 ⟨cv, rfl, o4, x4⟩
  replace o4 := Lib.hid o4
  obtain ⟨B4_0, p4_0, d4_0, B4_1, p4_1, d4_1, B4_2, p4_2, d4_2, B4_3, p4_3, d4_3, B4_4, p4_4, d4_4, rfl⟩ := GWorld.W_cells o4.out
  clear ea0_0 ea0_1 ea0_2 ea0_3 ea0_4 ea0_5 ea0_6 ea0_7 ea0_8
  replace ba0 := Lib.hid (ba0.out.ext (Ext.tr (Ext.refl' w3) x4))
  have X4 : Hid (Ext w w4) := (X3.out.tr (Ext.refl' w3)).tr x4
  clear x4
  go_wp2_with fail
  refine (impl_RealTime x0 _ _ _ (GWorld.W_R (GWorld.W_good.ext o4.out ((Ext.refl' w4).al _))) N0).mono ?_
  rintro e w5 ⟨rfl, x5⟩
  replace ba0 := Lib.hid (ba0.out.ext (Ext.tr ((Ext.refl' w4).al _) x5))
  have bx0 : Hid (Bx w5 (w4.heap.size) 74 #[.int .i64 x0.now_, .int .i64 x0.token_, .int .i64 x0.mem_.clock_, .slice B4_0 p4_0 d4_0, .slice B4_1 p4_1 d4_1, .int .i64 x0.shelf_.count_, .slice B4_2 p4_2 d4_2, .slice B4_3 p4_3 d4_3, .slice B4_4 p4_4 d4_4]) := Bx.ext (Bx.new' _ _ _ rfl) x5
  replace o4 := Lib.hid (GWorld.W_good.ext o4.out (Ext.tr ((Ext.refl' w4).al _) x5))
  have X5 : Hid (Ext w w5) := (X4.out.tr ((Ext.refl' w4).al _)).tr x5
  clear x5
  have ex0_0 : w5.cell? ⟨w4.heap.size, 0, none⟩ = some (.int .i64 x0.now_) := bx0.out.cell 0
  have ex0_1 : w5.cell? ⟨w4.heap.size, 1, none⟩ = some (.int .i64 x0.token_) := bx0.out.cell 1
  have ex0_2 : w5.cell? ⟨w4.heap.size, 2, none⟩ = some (.int .i64 x0.mem_.clock_) := bx0.out.cell 2
  have ex0_3 : w5.cell? ⟨w4.heap.size, 3, none⟩ = some (.slice B4_0 p4_0 d4_0) := bx0.out.cell 3
  have ex0_4 : w5.cell? ⟨w4.heap.size, 4, none⟩ = some (.slice B4_1 p4_1 d4_1) := bx0.out.cell 4
  have ex0_5 : w5.cell? ⟨w4.heap.size, 5, none⟩ = some (.int .i64 x0.shelf_.count_) := bx0.out.cell 5
  have ex0_6 : w5.cell? ⟨w4.heap.size, 6, none⟩ = some (.slice B4_2 p4_2 d4_2) := bx0.out.cell 6
  have ex0_7 : w5.cell? ⟨w4.heap.size, 7, none⟩ = some (.slice B4_3 p4_3 d4_3) := bx0.out.cell 7
  have ex0_8 : w5.cell? ⟨w4.heap.size, 8, none⟩ = some (.slice B4_4 p4_4 d4_4) := bx0.out.cell 8
  have ea0_0 : w5.cell? ⟨w.heap.size, 0, none⟩ = some (.int .i64 x0.now_) := ba0.out.cell 0
  have ea0_1 : w5.cell? ⟨w.heap.size, 1, none⟩ = some (.int .i64 x0.token_) := ba0.out.cell 1
  have ea0_2 : w5.cell? ⟨w.heap.size, 2, none⟩ = some (.int .i64 x0.mem_.clock_) := ba0.out.cell 2
  have ea0_3 : w5.cell? ⟨w.heap.size, 3, none⟩ = some (.slice A0_0 n0_0 c0_0) := ba0.out.cell 3
  have ea0_4 : w5.cell? ⟨w.heap.size, 4, none⟩ = some (.slice A0_1 n0_1 c0_1) := ba0.out.cell 4
  have ea0_5 : w5.cell? ⟨w.heap.size, 5, none⟩ = some (.int .i64 x0.shelf_.count_) := ba0.out.cell 5
  have ea0_6 : w5.cell? ⟨w.heap.size, 6, none⟩ = some (.slice A0_2 n0_2 c0_2) := ba0.out.cell 6
  have ea0_7 : w5.cell? ⟨w.heap.size, 7, none⟩ = some (.slice A0_3 n0_3 c0_3) := ba0.out.cell 7
  have ea0_8 : w5.cell? ⟨w.heap.size, 8, none⟩ = some (.slice A0_4 n0_4 c0_4) := ba0.out.cell 8
  go_wp2_with fail
  go_region_with (first | (go_at_call 17; refine (toGWorld_any x0 _ _ _ (GWorld.R_good.ext H0.out (X5.out.tr ((Ext.refl' w5).dr))) N0).mono ?_; rintro e w6 ⟨cv, rfl, o6, x6⟩; replace o6 := Lib.hid o6; obtain ⟨B6_0, p6_0, d6_0, B6_1, p6_1, d6_1, B6_2, p6_2, d6_2, B6_3, p6_3, d6_3, B6_4, p6_4, d6_4, rfl⟩ := GWorld.W_cells o6.out; have bq : Hid (Bx w6 (w4.heap.size) 74 #[.int .i64 x0.now_, .int .i64 x0.token_, .int .i64 x0.mem_.clock_, .slice B4_0 p4_0 d4_0, .slice B4_1 p4_1 d4_1, .int .i64 x0.shelf_.count_, .slice B4_2 p4_2 d4_2, .slice B4_3 p4_3 d4_3, .slice B4_4 p4_4 d4_4]) := Bx.ext ((bx0.out.ext ((Ext.refl' w5).dr))) x6; have eq_0 : w6.cell? ⟨w4.heap.size, 0, none⟩ = some (.int .i64 x0.now_) := bq.out.cell 0; have eq_1 : w6.cell? ⟨w4.heap.size, 1, none⟩ = some (.int .i64 x0.token_) := bq.out.cell 1; have eq_2 : w6.cell? ⟨w4.heap.size, 2, none⟩ = some (.int .i64 x0.mem_.clock_) := bq.out.cell 2; have eq_3 : w6.cell? ⟨w4.heap.size, 3, none⟩ = some (.slice B4_0 p4_0 d4_0) := bq.out.cell 3; have eq_4 : w6.cell? ⟨w4.heap.size, 4, none⟩ = some (.slice B4_1 p4_1 d4_1) := bq.out.cell 4; have eq_5 : w6.cell? ⟨w4.heap.size, 5, none⟩ = some (.int .i64 x0.shelf_.count_) := bq.out.cell 5; have eq_6 : w6.cell? ⟨w4.heap.size, 6, none⟩ = some (.slice B4_2 p4_2 d4_2) := bq.out.cell 6; have eq_7 : w6.cell? ⟨w4.heap.size, 7, none⟩ = some (.slice B4_3 p4_3 d4_3) := bq.out.cell 7; have eq_8 : w6.cell? ⟨w4.heap.size, 8, none⟩ = some (.slice B4_4 p4_4 d4_4) := bq.out.cell 8) | (go_at_call 19; refine (eqGWorld_same x0 _ _ _ _ _ (GWorld.W_R (GWorld.W_good.ext o4.out (Ext.tr ((Ext.refl' w5).dr) x6))) (GWorld.W_R o6.out)).mono ?_; rintro e w7 ⟨rfl, x7⟩))
  all_goals
    clear bq eq_0 eq_1 eq_2 eq_3 eq_4 eq_5 eq_6 eq_7 eq_8
    replace x7 := Ext.tr x6 x7
    clear o6
    clear ex0_0 ex0_1 ex0_2 ex0_3 ex0_4 ex0_5 ex0_6 ex0_7 ex0_8 ea0_0 ea0_1 ea0_2 ea0_3 ea0_4 ea0_5 ea0_6 ea0_7 ea0_8
    replace ba0 := Lib.hid (ba0.out.ext (Ext.tr ((Ext.refl' w5).dr) x7))
    replace bx0 := Lib.hid (bx0.out.ext (Ext.tr ((Ext.refl' w5).dr) x7))
    replace o4 := Lib.hid (GWorld.W_good.ext o4.out (Ext.tr ((Ext.refl' w5).dr) x7))
    have X7 : Hid (Ext w w7) := (X5.out.tr ((Ext.refl' w5).dr)).tr x7
    clear x7
    go_wp2
    go_ret
    exact ⟨rfl, (X7.out.tr (Ext.refl' w7))⟩

end Go.Proofs.Ytfacckjfoajijaa
