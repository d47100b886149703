/- Roots compared. No condition. -/
import Derived.Test.YtglplgbhhnmgbaaGreatWRootB
namespace Go.Proofs.YtglplgbhhnmgbaaGreat
open Go.RowKit Go.Deep

set_option maxRecDepth 8000 in
set_option maxHeartbeats 8000000 in
theorem eqRoot_same (x : Root) (cs cs' : List Value) (w : World) (S S' : Nat → Prop) (h : Root.R w S cs x) (u : Root.R w S' cs' x) :
    Calls Tryz.prog 84 #[.agg cs.toArray, .agg cs'.toArray] w fun e w' => e = .returned (.bool true) ∧ Ext w w' := by
  obtain ⟨A0, n0, c0, A1, n1, c1, A2, n2, c2, A3, n3, c3, A4, n4, c4, A5, n5, c5, v6, v7, rfl, ⟨kh0, mh0, h0⟩, ⟨kh1, mh1, h1⟩, ⟨kh2, mh2, h2⟩, ⟨kh3, mh3, h3⟩, ⟨kh4, mh4, h4⟩, ⟨kh5, mh5, h5⟩, h6, h7⟩ := h
  obtain ⟨A6, n6, c6, A7, n7, c7, rfl⟩ := Commit.R_cells h6
  obtain ⟨A8, n8, c8, A9, n9, c9, A10, n10, c10, A11, n11, c11, A12, n12, c12, A13, n13, c13, rfl⟩ := Family.R_cells h7
  obtain ⟨B0, p0, d0, B1, p1, d1, B2, p2, d2, B3, p3, d3, B4, p4, d4, B5, p5, d5, z6, z7, rfl, ⟨ku0, mu0, u0⟩, ⟨ku1, mu1, u1⟩, ⟨ku2, mu2, u2⟩, ⟨ku3, mu3, u3⟩, ⟨ku4, mu4, u4⟩, ⟨ku5, mu5, u5⟩, u6, u7⟩ := u
  obtain ⟨B6, p6, d6, B7, p7, d7, rfl⟩ := Commit.R_cells u6
  obtain ⟨B8, p8, d8, B9, p9, d9, B10, p10, d10, B11, p11, d11, B12, p12, d12, B13, p13, d13, rfl⟩ := Family.R_cells u7
  obtain rfl : n0 = p0 := by have a := h0.len; have b := u0.len; omega
  obtain rfl : n1 = p1 := by have a := h1.flen Row.cells_length (by omega); have b := u1.flen Row.cells_length (by omega); omega
  obtain rfl : n2 = p2 := by have a := h2.flen Row.cells_length (by omega); have b := u2.flen Row.cells_length (by omega); omega
  obtain rfl : n3 = p3 := by have a := h3.1; have b := u3.1; omega
  obtain rfl : n4 = p4 := by have a := h4.flen Undo.cells_length (by omega); have b := u4.flen Undo.cells_length (by omega); omega
  obtain rfl : n5 = p5 := by have a := h5.len; have b := u5.len; omega
  have H0 := Lib.hid h0
  have U0 := Lib.hid u0
  have H1 := Lib.hid h1
  have U1 := Lib.hid u1
  have H2 := Lib.hid h2
  have U2 := Lib.hid u2
  have H3 := Lib.hid h3
  have U3 := Lib.hid u3
  have H4 := Lib.hid h4
  have U4 := Lib.hid u4
  have H5 := Lib.hid h5
  have U5 := Lib.hid u5
  have H6 := Lib.hid h6
  have U6 := Lib.hid u6
  have H7 := Lib.hid h7
  have U7 := Lib.hid u7
  clear h0 u0 h1 u1 h2 u2 h3 u3 h4 u4 h5 u5 h6 u6 h7 u7
  simp only [List.cons_append, List.nil_append]
  go_enter Tryz.func84, Tryz.ntmps84
  go_wp2_with fail
  refine (eqIntS_same _ _ _ _ _ _ _ S S' (H0.out.ext (((Ext.refl' w).al _).al _)) (U0.out.ext (((Ext.refl' w).al _).al _)) mh0).mono ?_
  rintro e w1 ⟨rfl, x1⟩
  have z1 : w.heap.size + 2 ≤ w1.heap.size := by have h := x1.size; (try simp at h); omega
  have ba1 : Hid (Bx w1 (w.heap.size) 83 (List.toArray ((.int .i64 x.phase_) :: (.int .i64 x.tries_) :: (.int .i64 x.spare_) :: (.int .i64 x.pc_) :: (.int .i64 x.rv_) :: (.int .i64 x.newRv_) :: (.int .i64 x.at_) :: (.int .i64 x.fate_) :: (.int .i64 x.stamp_) :: (.int .i64 x.began_) :: (.int .i64 x.ended_) :: (.bool x.doomed_) :: (.slice A0 n0 c0) :: (.slice A1 n1 c1) :: (.slice A2 n2 c2) :: (.slice A3 n3 c3) :: (.slice A4 n4 c4) :: (.slice A5 n5 c5) :: (.bool x.busy_) :: (.int .i64 x.probe_.cell_) :: (.int .i64 x.probe_.phase_) :: (.int .i64 x.probe_.ver_) :: (.int .i64 x.probe_.val_) :: (.int .i64 x.commit_.who_) :: (.int .i64 x.commit_.rv_) :: (.int .i64 x.commit_.phase_) :: (.int .i64 x.commit_.at_) :: (.int .i64 x.commit_.wv_) :: (.slice A6 n6 c6) :: (.slice A7 n7 c7) :: (.int .i64 x.fam_.rv_) :: (.int .i64 x.fam_.clock_) :: (.int .i64 x.fam_.owner_) :: (.bool x.fam_.lost_) :: (.slice A8 n8 c8) :: (.slice A9 n9 c9) :: (.slice A10 n10 c10) :: (.slice A11 n11 c11) :: (.slice A12 n12 c12) :: (.slice A13 n13 c13) :: []))) := Bx.ext ((Bx.new' _ _ _ rfl).al _) x1
  have bb1 : Hid (Bx w1 (w.heap.size + 1) 83 (List.toArray ((.int .i64 x.phase_) :: (.int .i64 x.tries_) :: (.int .i64 x.spare_) :: (.int .i64 x.pc_) :: (.int .i64 x.rv_) :: (.int .i64 x.newRv_) :: (.int .i64 x.at_) :: (.int .i64 x.fate_) :: (.int .i64 x.stamp_) :: (.int .i64 x.began_) :: (.int .i64 x.ended_) :: (.bool x.doomed_) :: (.slice B0 n0 d0) :: (.slice B1 n1 d1) :: (.slice B2 n2 d2) :: (.slice B3 n3 d3) :: (.slice B4 n4 d4) :: (.slice B5 n5 d5) :: (.bool x.busy_) :: (.int .i64 x.probe_.cell_) :: (.int .i64 x.probe_.phase_) :: (.int .i64 x.probe_.ver_) :: (.int .i64 x.probe_.val_) :: (.int .i64 x.commit_.who_) :: (.int .i64 x.commit_.rv_) :: (.int .i64 x.commit_.phase_) :: (.int .i64 x.commit_.at_) :: (.int .i64 x.commit_.wv_) :: (.slice B6 p6 d6) :: (.slice B7 p7 d7) :: (.int .i64 x.fam_.rv_) :: (.int .i64 x.fam_.clock_) :: (.int .i64 x.fam_.owner_) :: (.bool x.fam_.lost_) :: (.slice B8 p8 d8) :: (.slice B9 p9 d9) :: (.slice B10 p10 d10) :: (.slice B11 p11 d11) :: (.slice B12 p12 d12) :: (.slice B13 p13 d13) :: []))) := Bx.ext (Bx.new' _ _ _ (by simp)) x1
  have X1 : Ext w w1 := Ext.tr (((Ext.refl' w).al _).al _) x1
  clear x1
  have ca1_13 : w1.cell? ⟨w.heap.size, 13, none⟩ = some (.slice A1 n1 c1) := ba1.out.cell 13
  have cb1_13 : w1.cell? ⟨w.heap.size + 1, 13, none⟩ = some (.slice B1 n1 d1) := bb1.out.cell 13
  go_wp2_with fail
  refine (eqRowS_same _ _ _ _ _ _ _ S S' (H1.out.ext (X1)) (U1.out.ext (X1)) mh1).mono ?_
  rintro e w2 ⟨rfl, x2⟩
  have z2 : w.heap.size + 2 ≤ w2.heap.size := by have h := x2.size; (try simp at h); omega
  have ba2 : Hid (Bx w2 (w.heap.size) 83 (List.toArray ((.int .i64 x.phase_) :: (.int .i64 x.tries_) :: (.int .i64 x.spare_) :: (.int .i64 x.pc_) :: (.int .i64 x.rv_) :: (.int .i64 x.newRv_) :: (.int .i64 x.at_) :: (.int .i64 x.fate_) :: (.int .i64 x.stamp_) :: (.int .i64 x.began_) :: (.int .i64 x.ended_) :: (.bool x.doomed_) :: (.slice A0 n0 c0) :: (.slice A1 n1 c1) :: (.slice A2 n2 c2) :: (.slice A3 n3 c3) :: (.slice A4 n4 c4) :: (.slice A5 n5 c5) :: (.bool x.busy_) :: (.int .i64 x.probe_.cell_) :: (.int .i64 x.probe_.phase_) :: (.int .i64 x.probe_.ver_) :: (.int .i64 x.probe_.val_) :: (.int .i64 x.commit_.who_) :: (.int .i64 x.commit_.rv_) :: (.int .i64 x.commit_.phase_) :: (.int .i64 x.commit_.at_) :: (.int .i64 x.commit_.wv_) :: (.slice A6 n6 c6) :: (.slice A7 n7 c7) :: (.int .i64 x.fam_.rv_) :: (.int .i64 x.fam_.clock_) :: (.int .i64 x.fam_.owner_) :: (.bool x.fam_.lost_) :: (.slice A8 n8 c8) :: (.slice A9 n9 c9) :: (.slice A10 n10 c10) :: (.slice A11 n11 c11) :: (.slice A12 n12 c12) :: (.slice A13 n13 c13) :: []))) := Bx.ext (ba1.out) x2
  have bb2 : Hid (Bx w2 (w.heap.size + 1) 83 (List.toArray ((.int .i64 x.phase_) :: (.int .i64 x.tries_) :: (.int .i64 x.spare_) :: (.int .i64 x.pc_) :: (.int .i64 x.rv_) :: (.int .i64 x.newRv_) :: (.int .i64 x.at_) :: (.int .i64 x.fate_) :: (.int .i64 x.stamp_) :: (.int .i64 x.began_) :: (.int .i64 x.ended_) :: (.bool x.doomed_) :: (.slice B0 n0 d0) :: (.slice B1 n1 d1) :: (.slice B2 n2 d2) :: (.slice B3 n3 d3) :: (.slice B4 n4 d4) :: (.slice B5 n5 d5) :: (.bool x.busy_) :: (.int .i64 x.probe_.cell_) :: (.int .i64 x.probe_.phase_) :: (.int .i64 x.probe_.ver_) :: (.int .i64 x.probe_.val_) :: (.int .i64 x.commit_.who_) :: (.int .i64 x.commit_.rv_) :: (.int .i64 x.commit_.phase_) :: (.int .i64 x.commit_.at_) :: (.int .i64 x.commit_.wv_) :: (.slice B6 p6 d6) :: (.slice B7 p7 d7) :: (.int .i64 x.fam_.rv_) :: (.int .i64 x.fam_.clock_) :: (.int .i64 x.fam_.owner_) :: (.bool x.fam_.lost_) :: (.slice B8 p8 d8) :: (.slice B9 p9 d9) :: (.slice B10 p10 d10) :: (.slice B11 p11 d11) :: (.slice B12 p12 d12) :: (.slice B13 p13 d13) :: []))) := Bx.ext (bb1.out) x2
  have X2 : Ext w w2 := Ext.tr (X1) x2
  clear x2
  have ca2_14 : w2.cell? ⟨w.heap.size, 14, none⟩ = some (.slice A2 n2 c2) := ba2.out.cell 14
  have cb2_14 : w2.cell? ⟨w.heap.size + 1, 14, none⟩ = some (.slice B2 n2 d2) := bb2.out.cell 14
  go_wp2_with fail
  refine (eqRowS_same _ _ _ _ _ _ _ S S' (H2.out.ext (X2)) (U2.out.ext (X2)) mh2).mono ?_
  rintro e w3 ⟨rfl, x3⟩
  have z3 : w.heap.size + 2 ≤ w3.heap.size := by have h := x3.size; (try simp at h); omega
  have ba3 : Hid (Bx w3 (w.heap.size) 83 (List.toArray ((.int .i64 x.phase_) :: (.int .i64 x.tries_) :: (.int .i64 x.spare_) :: (.int .i64 x.pc_) :: (.int .i64 x.rv_) :: (.int .i64 x.newRv_) :: (.int .i64 x.at_) :: (.int .i64 x.fate_) :: (.int .i64 x.stamp_) :: (.int .i64 x.began_) :: (.int .i64 x.ended_) :: (.bool x.doomed_) :: (.slice A0 n0 c0) :: (.slice A1 n1 c1) :: (.slice A2 n2 c2) :: (.slice A3 n3 c3) :: (.slice A4 n4 c4) :: (.slice A5 n5 c5) :: (.bool x.busy_) :: (.int .i64 x.probe_.cell_) :: (.int .i64 x.probe_.phase_) :: (.int .i64 x.probe_.ver_) :: (.int .i64 x.probe_.val_) :: (.int .i64 x.commit_.who_) :: (.int .i64 x.commit_.rv_) :: (.int .i64 x.commit_.phase_) :: (.int .i64 x.commit_.at_) :: (.int .i64 x.commit_.wv_) :: (.slice A6 n6 c6) :: (.slice A7 n7 c7) :: (.int .i64 x.fam_.rv_) :: (.int .i64 x.fam_.clock_) :: (.int .i64 x.fam_.owner_) :: (.bool x.fam_.lost_) :: (.slice A8 n8 c8) :: (.slice A9 n9 c9) :: (.slice A10 n10 c10) :: (.slice A11 n11 c11) :: (.slice A12 n12 c12) :: (.slice A13 n13 c13) :: []))) := Bx.ext (ba2.out) x3
  have bb3 : Hid (Bx w3 (w.heap.size + 1) 83 (List.toArray ((.int .i64 x.phase_) :: (.int .i64 x.tries_) :: (.int .i64 x.spare_) :: (.int .i64 x.pc_) :: (.int .i64 x.rv_) :: (.int .i64 x.newRv_) :: (.int .i64 x.at_) :: (.int .i64 x.fate_) :: (.int .i64 x.stamp_) :: (.int .i64 x.began_) :: (.int .i64 x.ended_) :: (.bool x.doomed_) :: (.slice B0 n0 d0) :: (.slice B1 n1 d1) :: (.slice B2 n2 d2) :: (.slice B3 n3 d3) :: (.slice B4 n4 d4) :: (.slice B5 n5 d5) :: (.bool x.busy_) :: (.int .i64 x.probe_.cell_) :: (.int .i64 x.probe_.phase_) :: (.int .i64 x.probe_.ver_) :: (.int .i64 x.probe_.val_) :: (.int .i64 x.commit_.who_) :: (.int .i64 x.commit_.rv_) :: (.int .i64 x.commit_.phase_) :: (.int .i64 x.commit_.at_) :: (.int .i64 x.commit_.wv_) :: (.slice B6 p6 d6) :: (.slice B7 p7 d7) :: (.int .i64 x.fam_.rv_) :: (.int .i64 x.fam_.clock_) :: (.int .i64 x.fam_.owner_) :: (.bool x.fam_.lost_) :: (.slice B8 p8 d8) :: (.slice B9 p9 d9) :: (.slice B10 p10 d10) :: (.slice B11 p11 d11) :: (.slice B12 p12 d12) :: (.slice B13 p13 d13) :: []))) := Bx.ext (bb2.out) x3
  have X3 : Ext w w3 := Ext.tr (X2) x3
  clear x3
  have ca3_15 : w3.cell? ⟨w.heap.size, 15, none⟩ = some (.slice A3 n3 c3) := ba3.out.cell 15
  have cb3_15 : w3.cell? ⟨w.heap.size + 1, 15, none⟩ = some (.slice B3 n3 d3) := bb3.out.cell 15
  go_wp2_with fail
  refine (eqMarkS_same _ _ _ _ _ x.marks_ _ S S' (SlR.ext Mark.R_good H3.out (X3)) (SlR.ext Mark.R_good U3.out (X3)) mh3).mono ?_
  rintro e w4 ⟨rfl, x4⟩
  have z4 : w.heap.size + 2 ≤ w4.heap.size := by have h := x4.size; (try simp at h); omega
  have ba4 : Hid (Bx w4 (w.heap.size) 83 (List.toArray ((.int .i64 x.phase_) :: (.int .i64 x.tries_) :: (.int .i64 x.spare_) :: (.int .i64 x.pc_) :: (.int .i64 x.rv_) :: (.int .i64 x.newRv_) :: (.int .i64 x.at_) :: (.int .i64 x.fate_) :: (.int .i64 x.stamp_) :: (.int .i64 x.began_) :: (.int .i64 x.ended_) :: (.bool x.doomed_) :: (.slice A0 n0 c0) :: (.slice A1 n1 c1) :: (.slice A2 n2 c2) :: (.slice A3 n3 c3) :: (.slice A4 n4 c4) :: (.slice A5 n5 c5) :: (.bool x.busy_) :: (.int .i64 x.probe_.cell_) :: (.int .i64 x.probe_.phase_) :: (.int .i64 x.probe_.ver_) :: (.int .i64 x.probe_.val_) :: (.int .i64 x.commit_.who_) :: (.int .i64 x.commit_.rv_) :: (.int .i64 x.commit_.phase_) :: (.int .i64 x.commit_.at_) :: (.int .i64 x.commit_.wv_) :: (.slice A6 n6 c6) :: (.slice A7 n7 c7) :: (.int .i64 x.fam_.rv_) :: (.int .i64 x.fam_.clock_) :: (.int .i64 x.fam_.owner_) :: (.bool x.fam_.lost_) :: (.slice A8 n8 c8) :: (.slice A9 n9 c9) :: (.slice A10 n10 c10) :: (.slice A11 n11 c11) :: (.slice A12 n12 c12) :: (.slice A13 n13 c13) :: []))) := Bx.ext (ba3.out) x4
  have bb4 : Hid (Bx w4 (w.heap.size + 1) 83 (List.toArray ((.int .i64 x.phase_) :: (.int .i64 x.tries_) :: (.int .i64 x.spare_) :: (.int .i64 x.pc_) :: (.int .i64 x.rv_) :: (.int .i64 x.newRv_) :: (.int .i64 x.at_) :: (.int .i64 x.fate_) :: (.int .i64 x.stamp_) :: (.int .i64 x.began_) :: (.int .i64 x.ended_) :: (.bool x.doomed_) :: (.slice B0 n0 d0) :: (.slice B1 n1 d1) :: (.slice B2 n2 d2) :: (.slice B3 n3 d3) :: (.slice B4 n4 d4) :: (.slice B5 n5 d5) :: (.bool x.busy_) :: (.int .i64 x.probe_.cell_) :: (.int .i64 x.probe_.phase_) :: (.int .i64 x.probe_.ver_) :: (.int .i64 x.probe_.val_) :: (.int .i64 x.commit_.who_) :: (.int .i64 x.commit_.rv_) :: (.int .i64 x.commit_.phase_) :: (.int .i64 x.commit_.at_) :: (.int .i64 x.commit_.wv_) :: (.slice B6 p6 d6) :: (.slice B7 p7 d7) :: (.int .i64 x.fam_.rv_) :: (.int .i64 x.fam_.clock_) :: (.int .i64 x.fam_.owner_) :: (.bool x.fam_.lost_) :: (.slice B8 p8 d8) :: (.slice B9 p9 d9) :: (.slice B10 p10 d10) :: (.slice B11 p11 d11) :: (.slice B12 p12 d12) :: (.slice B13 p13 d13) :: []))) := Bx.ext (bb3.out) x4
  have X4 : Ext w w4 := Ext.tr (X3) x4
  clear x4
  have ca4_16 : w4.cell? ⟨w.heap.size, 16, none⟩ = some (.slice A4 n4 c4) := ba4.out.cell 16
  have cb4_16 : w4.cell? ⟨w.heap.size + 1, 16, none⟩ = some (.slice B4 n4 d4) := bb4.out.cell 16
  go_wp2_with fail
  refine (eqUndoS_same _ _ _ _ _ _ _ S S' (H4.out.ext (X4)) (U4.out.ext (X4)) mh4).mono ?_
  rintro e w5 ⟨rfl, x5⟩
  have z5 : w.heap.size + 2 ≤ w5.heap.size := by have h := x5.size; (try simp at h); omega
  have ba5 : Hid (Bx w5 (w.heap.size) 83 (List.toArray ((.int .i64 x.phase_) :: (.int .i64 x.tries_) :: (.int .i64 x.spare_) :: (.int .i64 x.pc_) :: (.int .i64 x.rv_) :: (.int .i64 x.newRv_) :: (.int .i64 x.at_) :: (.int .i64 x.fate_) :: (.int .i64 x.stamp_) :: (.int .i64 x.began_) :: (.int .i64 x.ended_) :: (.bool x.doomed_) :: (.slice A0 n0 c0) :: (.slice A1 n1 c1) :: (.slice A2 n2 c2) :: (.slice A3 n3 c3) :: (.slice A4 n4 c4) :: (.slice A5 n5 c5) :: (.bool x.busy_) :: (.int .i64 x.probe_.cell_) :: (.int .i64 x.probe_.phase_) :: (.int .i64 x.probe_.ver_) :: (.int .i64 x.probe_.val_) :: (.int .i64 x.commit_.who_) :: (.int .i64 x.commit_.rv_) :: (.int .i64 x.commit_.phase_) :: (.int .i64 x.commit_.at_) :: (.int .i64 x.commit_.wv_) :: (.slice A6 n6 c6) :: (.slice A7 n7 c7) :: (.int .i64 x.fam_.rv_) :: (.int .i64 x.fam_.clock_) :: (.int .i64 x.fam_.owner_) :: (.bool x.fam_.lost_) :: (.slice A8 n8 c8) :: (.slice A9 n9 c9) :: (.slice A10 n10 c10) :: (.slice A11 n11 c11) :: (.slice A12 n12 c12) :: (.slice A13 n13 c13) :: []))) := Bx.ext (ba4.out) x5
  have bb5 : Hid (Bx w5 (w.heap.size + 1) 83 (List.toArray ((.int .i64 x.phase_) :: (.int .i64 x.tries_) :: (.int .i64 x.spare_) :: (.int .i64 x.pc_) :: (.int .i64 x.rv_) :: (.int .i64 x.newRv_) :: (.int .i64 x.at_) :: (.int .i64 x.fate_) :: (.int .i64 x.stamp_) :: (.int .i64 x.began_) :: (.int .i64 x.ended_) :: (.bool x.doomed_) :: (.slice B0 n0 d0) :: (.slice B1 n1 d1) :: (.slice B2 n2 d2) :: (.slice B3 n3 d3) :: (.slice B4 n4 d4) :: (.slice B5 n5 d5) :: (.bool x.busy_) :: (.int .i64 x.probe_.cell_) :: (.int .i64 x.probe_.phase_) :: (.int .i64 x.probe_.ver_) :: (.int .i64 x.probe_.val_) :: (.int .i64 x.commit_.who_) :: (.int .i64 x.commit_.rv_) :: (.int .i64 x.commit_.phase_) :: (.int .i64 x.commit_.at_) :: (.int .i64 x.commit_.wv_) :: (.slice B6 p6 d6) :: (.slice B7 p7 d7) :: (.int .i64 x.fam_.rv_) :: (.int .i64 x.fam_.clock_) :: (.int .i64 x.fam_.owner_) :: (.bool x.fam_.lost_) :: (.slice B8 p8 d8) :: (.slice B9 p9 d9) :: (.slice B10 p10 d10) :: (.slice B11 p11 d11) :: (.slice B12 p12 d12) :: (.slice B13 p13 d13) :: []))) := Bx.ext (bb4.out) x5
  have X5 : Ext w w5 := Ext.tr (X4) x5
  clear x5
  have ca5_17 : w5.cell? ⟨w.heap.size, 17, none⟩ = some (.slice A5 n5 c5) := ba5.out.cell 17
  have cb5_17 : w5.cell? ⟨w.heap.size + 1, 17, none⟩ = some (.slice B5 n5 d5) := bb5.out.cell 17
  go_wp2_with fail
  refine (eqIntS_same _ _ _ _ _ _ _ S S' (H5.out.ext (X5)) (U5.out.ext (X5)) mh5).mono ?_
  rintro e w6 ⟨rfl, x6⟩
  have z6 : w.heap.size + 2 ≤ w6.heap.size := by have h := x6.size; (try simp at h); omega
  have ba6 : Hid (Bx w6 (w.heap.size) 83 (List.toArray ((.int .i64 x.phase_) :: (.int .i64 x.tries_) :: (.int .i64 x.spare_) :: (.int .i64 x.pc_) :: (.int .i64 x.rv_) :: (.int .i64 x.newRv_) :: (.int .i64 x.at_) :: (.int .i64 x.fate_) :: (.int .i64 x.stamp_) :: (.int .i64 x.began_) :: (.int .i64 x.ended_) :: (.bool x.doomed_) :: (.slice A0 n0 c0) :: (.slice A1 n1 c1) :: (.slice A2 n2 c2) :: (.slice A3 n3 c3) :: (.slice A4 n4 c4) :: (.slice A5 n5 c5) :: (.bool x.busy_) :: (.int .i64 x.probe_.cell_) :: (.int .i64 x.probe_.phase_) :: (.int .i64 x.probe_.ver_) :: (.int .i64 x.probe_.val_) :: (.int .i64 x.commit_.who_) :: (.int .i64 x.commit_.rv_) :: (.int .i64 x.commit_.phase_) :: (.int .i64 x.commit_.at_) :: (.int .i64 x.commit_.wv_) :: (.slice A6 n6 c6) :: (.slice A7 n7 c7) :: (.int .i64 x.fam_.rv_) :: (.int .i64 x.fam_.clock_) :: (.int .i64 x.fam_.owner_) :: (.bool x.fam_.lost_) :: (.slice A8 n8 c8) :: (.slice A9 n9 c9) :: (.slice A10 n10 c10) :: (.slice A11 n11 c11) :: (.slice A12 n12 c12) :: (.slice A13 n13 c13) :: []))) := Bx.ext (ba5.out) x6
  have bb6 : Hid (Bx w6 (w.heap.size + 1) 83 (List.toArray ((.int .i64 x.phase_) :: (.int .i64 x.tries_) :: (.int .i64 x.spare_) :: (.int .i64 x.pc_) :: (.int .i64 x.rv_) :: (.int .i64 x.newRv_) :: (.int .i64 x.at_) :: (.int .i64 x.fate_) :: (.int .i64 x.stamp_) :: (.int .i64 x.began_) :: (.int .i64 x.ended_) :: (.bool x.doomed_) :: (.slice B0 n0 d0) :: (.slice B1 n1 d1) :: (.slice B2 n2 d2) :: (.slice B3 n3 d3) :: (.slice B4 n4 d4) :: (.slice B5 n5 d5) :: (.bool x.busy_) :: (.int .i64 x.probe_.cell_) :: (.int .i64 x.probe_.phase_) :: (.int .i64 x.probe_.ver_) :: (.int .i64 x.probe_.val_) :: (.int .i64 x.commit_.who_) :: (.int .i64 x.commit_.rv_) :: (.int .i64 x.commit_.phase_) :: (.int .i64 x.commit_.at_) :: (.int .i64 x.commit_.wv_) :: (.slice B6 p6 d6) :: (.slice B7 p7 d7) :: (.int .i64 x.fam_.rv_) :: (.int .i64 x.fam_.clock_) :: (.int .i64 x.fam_.owner_) :: (.bool x.fam_.lost_) :: (.slice B8 p8 d8) :: (.slice B9 p9 d9) :: (.slice B10 p10 d10) :: (.slice B11 p11 d11) :: (.slice B12 p12 d12) :: (.slice B13 p13 d13) :: []))) := Bx.ext (bb5.out) x6
  have X6 : Ext w w6 := Ext.tr (X5) x6
  clear x6
  have ca6_18 : w6.cell? ⟨w.heap.size, 18, none⟩ = some (.bool x.busy_) := ba6.out.cell 18
  have cb6_18 : w6.cell? ⟨w.heap.size + 1, 18, none⟩ = some (.bool x.busy_) := bb6.out.cell 18
  have ca6_19 : w6.cell? ⟨w.heap.size, 19, none⟩ = some (.int .i64 x.probe_.cell_) := ba6.out.cell 19
  have cb6_19 : w6.cell? ⟨w.heap.size + 1, 19, none⟩ = some (.int .i64 x.probe_.cell_) := bb6.out.cell 19
  have ca6_20 : w6.cell? ⟨w.heap.size, 20, none⟩ = some (.int .i64 x.probe_.phase_) := ba6.out.cell 20
  have cb6_20 : w6.cell? ⟨w.heap.size + 1, 20, none⟩ = some (.int .i64 x.probe_.phase_) := bb6.out.cell 20
  have ca6_21 : w6.cell? ⟨w.heap.size, 21, none⟩ = some (.int .i64 x.probe_.ver_) := ba6.out.cell 21
  have cb6_21 : w6.cell? ⟨w.heap.size + 1, 21, none⟩ = some (.int .i64 x.probe_.ver_) := bb6.out.cell 21
  have ca6_22 : w6.cell? ⟨w.heap.size, 22, none⟩ = some (.int .i64 x.probe_.val_) := ba6.out.cell 22
  have cb6_22 : w6.cell? ⟨w.heap.size + 1, 22, none⟩ = some (.int .i64 x.probe_.val_) := bb6.out.cell 22
  go_wp2_with fail
  refine (eqProbe_same _ _ _ _ _).mono ?_
  rintro e w7 ⟨rfl, x7⟩
  have z7 : w.heap.size + 2 ≤ w7.heap.size := by have h := x7.size; (try simp at h); omega
  have ba7 : Hid (Bx w7 (w.heap.size) 83 (List.toArray ((.int .i64 x.phase_) :: (.int .i64 x.tries_) :: (.int .i64 x.spare_) :: (.int .i64 x.pc_) :: (.int .i64 x.rv_) :: (.int .i64 x.newRv_) :: (.int .i64 x.at_) :: (.int .i64 x.fate_) :: (.int .i64 x.stamp_) :: (.int .i64 x.began_) :: (.int .i64 x.ended_) :: (.bool x.doomed_) :: (.slice A0 n0 c0) :: (.slice A1 n1 c1) :: (.slice A2 n2 c2) :: (.slice A3 n3 c3) :: (.slice A4 n4 c4) :: (.slice A5 n5 c5) :: (.bool x.busy_) :: (.int .i64 x.probe_.cell_) :: (.int .i64 x.probe_.phase_) :: (.int .i64 x.probe_.ver_) :: (.int .i64 x.probe_.val_) :: (.int .i64 x.commit_.who_) :: (.int .i64 x.commit_.rv_) :: (.int .i64 x.commit_.phase_) :: (.int .i64 x.commit_.at_) :: (.int .i64 x.commit_.wv_) :: (.slice A6 n6 c6) :: (.slice A7 n7 c7) :: (.int .i64 x.fam_.rv_) :: (.int .i64 x.fam_.clock_) :: (.int .i64 x.fam_.owner_) :: (.bool x.fam_.lost_) :: (.slice A8 n8 c8) :: (.slice A9 n9 c9) :: (.slice A10 n10 c10) :: (.slice A11 n11 c11) :: (.slice A12 n12 c12) :: (.slice A13 n13 c13) :: []))) := Bx.ext (ba6.out) x7
  have bb7 : Hid (Bx w7 (w.heap.size + 1) 83 (List.toArray ((.int .i64 x.phase_) :: (.int .i64 x.tries_) :: (.int .i64 x.spare_) :: (.int .i64 x.pc_) :: (.int .i64 x.rv_) :: (.int .i64 x.newRv_) :: (.int .i64 x.at_) :: (.int .i64 x.fate_) :: (.int .i64 x.stamp_) :: (.int .i64 x.began_) :: (.int .i64 x.ended_) :: (.bool x.doomed_) :: (.slice B0 n0 d0) :: (.slice B1 n1 d1) :: (.slice B2 n2 d2) :: (.slice B3 n3 d3) :: (.slice B4 n4 d4) :: (.slice B5 n5 d5) :: (.bool x.busy_) :: (.int .i64 x.probe_.cell_) :: (.int .i64 x.probe_.phase_) :: (.int .i64 x.probe_.ver_) :: (.int .i64 x.probe_.val_) :: (.int .i64 x.commit_.who_) :: (.int .i64 x.commit_.rv_) :: (.int .i64 x.commit_.phase_) :: (.int .i64 x.commit_.at_) :: (.int .i64 x.commit_.wv_) :: (.slice B6 p6 d6) :: (.slice B7 p7 d7) :: (.int .i64 x.fam_.rv_) :: (.int .i64 x.fam_.clock_) :: (.int .i64 x.fam_.owner_) :: (.bool x.fam_.lost_) :: (.slice B8 p8 d8) :: (.slice B9 p9 d9) :: (.slice B10 p10 d10) :: (.slice B11 p11 d11) :: (.slice B12 p12 d12) :: (.slice B13 p13 d13) :: []))) := Bx.ext (bb6.out) x7
  have X7 : Ext w w7 := Ext.tr (X6) x7
  clear x7
  have ca7_23 : w7.cell? ⟨w.heap.size, 23, none⟩ = some (.int .i64 x.commit_.who_) := ba7.out.cell 23
  have cb7_23 : w7.cell? ⟨w.heap.size + 1, 23, none⟩ = some (.int .i64 x.commit_.who_) := bb7.out.cell 23
  have ca7_24 : w7.cell? ⟨w.heap.size, 24, none⟩ = some (.int .i64 x.commit_.rv_) := ba7.out.cell 24
  have cb7_24 : w7.cell? ⟨w.heap.size + 1, 24, none⟩ = some (.int .i64 x.commit_.rv_) := bb7.out.cell 24
  have ca7_25 : w7.cell? ⟨w.heap.size, 25, none⟩ = some (.int .i64 x.commit_.phase_) := ba7.out.cell 25
  have cb7_25 : w7.cell? ⟨w.heap.size + 1, 25, none⟩ = some (.int .i64 x.commit_.phase_) := bb7.out.cell 25
  have ca7_26 : w7.cell? ⟨w.heap.size, 26, none⟩ = some (.int .i64 x.commit_.at_) := ba7.out.cell 26
  have cb7_26 : w7.cell? ⟨w.heap.size + 1, 26, none⟩ = some (.int .i64 x.commit_.at_) := bb7.out.cell 26
  have ca7_27 : w7.cell? ⟨w.heap.size, 27, none⟩ = some (.int .i64 x.commit_.wv_) := ba7.out.cell 27
  have cb7_27 : w7.cell? ⟨w.heap.size + 1, 27, none⟩ = some (.int .i64 x.commit_.wv_) := bb7.out.cell 27
  have ca7_28 : w7.cell? ⟨w.heap.size, 28, none⟩ = some (.slice A6 n6 c6) := ba7.out.cell 28
  have cb7_28 : w7.cell? ⟨w.heap.size + 1, 28, none⟩ = some (.slice B6 p6 d6) := bb7.out.cell 28
  have ca7_29 : w7.cell? ⟨w.heap.size, 29, none⟩ = some (.slice A7 n7 c7) := ba7.out.cell 29
  have cb7_29 : w7.cell? ⟨w.heap.size + 1, 29, none⟩ = some (.slice B7 p7 d7) := bb7.out.cell 29
  go_wp2_with fail
  refine (eqCommit_same x.commit_ _ _ _ S S' (Commit.R_good.ext H6.out (X7)) (Commit.R_good.ext U6.out (X7))).mono ?_
  rintro e w8 ⟨rfl, x8⟩
  have z8 : w.heap.size + 2 ≤ w8.heap.size := by have h := x8.size; (try simp at h); omega
  have ba8 : Hid (Bx w8 (w.heap.size) 83 (List.toArray ((.int .i64 x.phase_) :: (.int .i64 x.tries_) :: (.int .i64 x.spare_) :: (.int .i64 x.pc_) :: (.int .i64 x.rv_) :: (.int .i64 x.newRv_) :: (.int .i64 x.at_) :: (.int .i64 x.fate_) :: (.int .i64 x.stamp_) :: (.int .i64 x.began_) :: (.int .i64 x.ended_) :: (.bool x.doomed_) :: (.slice A0 n0 c0) :: (.slice A1 n1 c1) :: (.slice A2 n2 c2) :: (.slice A3 n3 c3) :: (.slice A4 n4 c4) :: (.slice A5 n5 c5) :: (.bool x.busy_) :: (.int .i64 x.probe_.cell_) :: (.int .i64 x.probe_.phase_) :: (.int .i64 x.probe_.ver_) :: (.int .i64 x.probe_.val_) :: (.int .i64 x.commit_.who_) :: (.int .i64 x.commit_.rv_) :: (.int .i64 x.commit_.phase_) :: (.int .i64 x.commit_.at_) :: (.int .i64 x.commit_.wv_) :: (.slice A6 n6 c6) :: (.slice A7 n7 c7) :: (.int .i64 x.fam_.rv_) :: (.int .i64 x.fam_.clock_) :: (.int .i64 x.fam_.owner_) :: (.bool x.fam_.lost_) :: (.slice A8 n8 c8) :: (.slice A9 n9 c9) :: (.slice A10 n10 c10) :: (.slice A11 n11 c11) :: (.slice A12 n12 c12) :: (.slice A13 n13 c13) :: []))) := Bx.ext (ba7.out) x8
  have bb8 : Hid (Bx w8 (w.heap.size + 1) 83 (List.toArray ((.int .i64 x.phase_) :: (.int .i64 x.tries_) :: (.int .i64 x.spare_) :: (.int .i64 x.pc_) :: (.int .i64 x.rv_) :: (.int .i64 x.newRv_) :: (.int .i64 x.at_) :: (.int .i64 x.fate_) :: (.int .i64 x.stamp_) :: (.int .i64 x.began_) :: (.int .i64 x.ended_) :: (.bool x.doomed_) :: (.slice B0 n0 d0) :: (.slice B1 n1 d1) :: (.slice B2 n2 d2) :: (.slice B3 n3 d3) :: (.slice B4 n4 d4) :: (.slice B5 n5 d5) :: (.bool x.busy_) :: (.int .i64 x.probe_.cell_) :: (.int .i64 x.probe_.phase_) :: (.int .i64 x.probe_.ver_) :: (.int .i64 x.probe_.val_) :: (.int .i64 x.commit_.who_) :: (.int .i64 x.commit_.rv_) :: (.int .i64 x.commit_.phase_) :: (.int .i64 x.commit_.at_) :: (.int .i64 x.commit_.wv_) :: (.slice B6 p6 d6) :: (.slice B7 p7 d7) :: (.int .i64 x.fam_.rv_) :: (.int .i64 x.fam_.clock_) :: (.int .i64 x.fam_.owner_) :: (.bool x.fam_.lost_) :: (.slice B8 p8 d8) :: (.slice B9 p9 d9) :: (.slice B10 p10 d10) :: (.slice B11 p11 d11) :: (.slice B12 p12 d12) :: (.slice B13 p13 d13) :: []))) := Bx.ext (bb7.out) x8
  have X8 : Ext w w8 := Ext.tr (X7) x8
  clear x8
  have ca8_30 : w8.cell? ⟨w.heap.size, 30, none⟩ = some (.int .i64 x.fam_.rv_) := ba8.out.cell 30
  have cb8_30 : w8.cell? ⟨w.heap.size + 1, 30, none⟩ = some (.int .i64 x.fam_.rv_) := bb8.out.cell 30
  have ca8_31 : w8.cell? ⟨w.heap.size, 31, none⟩ = some (.int .i64 x.fam_.clock_) := ba8.out.cell 31
  have cb8_31 : w8.cell? ⟨w.heap.size + 1, 31, none⟩ = some (.int .i64 x.fam_.clock_) := bb8.out.cell 31
  have ca8_32 : w8.cell? ⟨w.heap.size, 32, none⟩ = some (.int .i64 x.fam_.owner_) := ba8.out.cell 32
  have cb8_32 : w8.cell? ⟨w.heap.size + 1, 32, none⟩ = some (.int .i64 x.fam_.owner_) := bb8.out.cell 32
  have ca8_33 : w8.cell? ⟨w.heap.size, 33, none⟩ = some (.bool x.fam_.lost_) := ba8.out.cell 33
  have cb8_33 : w8.cell? ⟨w.heap.size + 1, 33, none⟩ = some (.bool x.fam_.lost_) := bb8.out.cell 33
  have ca8_34 : w8.cell? ⟨w.heap.size, 34, none⟩ = some (.slice A8 n8 c8) := ba8.out.cell 34
  have cb8_34 : w8.cell? ⟨w.heap.size + 1, 34, none⟩ = some (.slice B8 p8 d8) := bb8.out.cell 34
  have ca8_35 : w8.cell? ⟨w.heap.size, 35, none⟩ = some (.slice A9 n9 c9) := ba8.out.cell 35
  have cb8_35 : w8.cell? ⟨w.heap.size + 1, 35, none⟩ = some (.slice B9 p9 d9) := bb8.out.cell 35
  have ca8_36 : w8.cell? ⟨w.heap.size, 36, none⟩ = some (.slice A10 n10 c10) := ba8.out.cell 36
  have cb8_36 : w8.cell? ⟨w.heap.size + 1, 36, none⟩ = some (.slice B10 p10 d10) := bb8.out.cell 36
  have ca8_37 : w8.cell? ⟨w.heap.size, 37, none⟩ = some (.slice A11 n11 c11) := ba8.out.cell 37
  have cb8_37 : w8.cell? ⟨w.heap.size + 1, 37, none⟩ = some (.slice B11 p11 d11) := bb8.out.cell 37
  have ca8_38 : w8.cell? ⟨w.heap.size, 38, none⟩ = some (.slice A12 n12 c12) := ba8.out.cell 38
  have cb8_38 : w8.cell? ⟨w.heap.size + 1, 38, none⟩ = some (.slice B12 p12 d12) := bb8.out.cell 38
  have ca8_39 : w8.cell? ⟨w.heap.size, 39, none⟩ = some (.slice A13 n13 c13) := ba8.out.cell 39
  have cb8_39 : w8.cell? ⟨w.heap.size + 1, 39, none⟩ = some (.slice B13 p13 d13) := bb8.out.cell 39
  go_wp2_with fail
  refine (eqFamily_same x.fam_ _ _ _ S S' (Family.R_good.ext H7.out (X8)) (Family.R_good.ext U7.out (X8))).mono ?_
  rintro e w9 ⟨rfl, x9⟩
  have z9 : w.heap.size + 2 ≤ w9.heap.size := by have h := x9.size; (try simp at h); omega
  have ba9 : Hid (Bx w9 (w.heap.size) 83 (List.toArray ((.int .i64 x.phase_) :: (.int .i64 x.tries_) :: (.int .i64 x.spare_) :: (.int .i64 x.pc_) :: (.int .i64 x.rv_) :: (.int .i64 x.newRv_) :: (.int .i64 x.at_) :: (.int .i64 x.fate_) :: (.int .i64 x.stamp_) :: (.int .i64 x.began_) :: (.int .i64 x.ended_) :: (.bool x.doomed_) :: (.slice A0 n0 c0) :: (.slice A1 n1 c1) :: (.slice A2 n2 c2) :: (.slice A3 n3 c3) :: (.slice A4 n4 c4) :: (.slice A5 n5 c5) :: (.bool x.busy_) :: (.int .i64 x.probe_.cell_) :: (.int .i64 x.probe_.phase_) :: (.int .i64 x.probe_.ver_) :: (.int .i64 x.probe_.val_) :: (.int .i64 x.commit_.who_) :: (.int .i64 x.commit_.rv_) :: (.int .i64 x.commit_.phase_) :: (.int .i64 x.commit_.at_) :: (.int .i64 x.commit_.wv_) :: (.slice A6 n6 c6) :: (.slice A7 n7 c7) :: (.int .i64 x.fam_.rv_) :: (.int .i64 x.fam_.clock_) :: (.int .i64 x.fam_.owner_) :: (.bool x.fam_.lost_) :: (.slice A8 n8 c8) :: (.slice A9 n9 c9) :: (.slice A10 n10 c10) :: (.slice A11 n11 c11) :: (.slice A12 n12 c12) :: (.slice A13 n13 c13) :: []))) := Bx.ext (ba8.out) x9
  have bb9 : Hid (Bx w9 (w.heap.size + 1) 83 (List.toArray ((.int .i64 x.phase_) :: (.int .i64 x.tries_) :: (.int .i64 x.spare_) :: (.int .i64 x.pc_) :: (.int .i64 x.rv_) :: (.int .i64 x.newRv_) :: (.int .i64 x.at_) :: (.int .i64 x.fate_) :: (.int .i64 x.stamp_) :: (.int .i64 x.began_) :: (.int .i64 x.ended_) :: (.bool x.doomed_) :: (.slice B0 n0 d0) :: (.slice B1 n1 d1) :: (.slice B2 n2 d2) :: (.slice B3 n3 d3) :: (.slice B4 n4 d4) :: (.slice B5 n5 d5) :: (.bool x.busy_) :: (.int .i64 x.probe_.cell_) :: (.int .i64 x.probe_.phase_) :: (.int .i64 x.probe_.ver_) :: (.int .i64 x.probe_.val_) :: (.int .i64 x.commit_.who_) :: (.int .i64 x.commit_.rv_) :: (.int .i64 x.commit_.phase_) :: (.int .i64 x.commit_.at_) :: (.int .i64 x.commit_.wv_) :: (.slice B6 p6 d6) :: (.slice B7 p7 d7) :: (.int .i64 x.fam_.rv_) :: (.int .i64 x.fam_.clock_) :: (.int .i64 x.fam_.owner_) :: (.bool x.fam_.lost_) :: (.slice B8 p8 d8) :: (.slice B9 p9 d9) :: (.slice B10 p10 d10) :: (.slice B11 p11 d11) :: (.slice B12 p12 d12) :: (.slice B13 p13 d13) :: []))) := Bx.ext (bb8.out) x9
  have X9 : Ext w w9 := Ext.tr (X8) x9
  clear x9
  go_wp2
  go_ret
  exact ⟨rfl, X9⟩

end Go.Proofs.YtglplgbhhnmgbaaGreat
