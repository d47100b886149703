/- Root: its size. No condition. -/
import Derived.Test.YtglplgbhhnmgbaaGreatWRootB
namespace Go.Proofs.YtglplgbhhnmgbaaGreat
open Go.RowKit Go.Deep

set_option maxRecDepth 8000 in
set_option maxHeartbeats 4000000 in
theorem szRoot_any (x : Root) (cs : List Value) (q : Int) (w : World) (S : Nat → Prop) (h : Root.R w S cs x) (hq0 : 0 ≤ q) (hq2 : q ≤ 1048576) :
    Calls Tryz.prog 49 #[.agg cs.toArray, .int .i64 q] w fun e w' => ∃ r : Int, e = .returned (.int .i64 r) ∧ Left r q (Root.wt x) ∧ Ext w w' := by
  obtain ⟨A0, n0, c0, A1, n1, c1, A2, n2, c2, A3, n3, c3, A4, n4, c4, A5, n5, c5, v6, v7, rfl, ⟨kh0, mh0, h0⟩, ⟨kh1, mh1, h1⟩, ⟨kh2, mh2, h2⟩, ⟨kh3, mh3, h3⟩, ⟨kh4, mh4, h4⟩, ⟨kh5, mh5, h5⟩, h6, h7⟩ := h
  obtain ⟨A6, n6, c6, A7, n7, c7, rfl⟩ := Commit.R_cells h6
  obtain ⟨A8, n8, c8, A9, n9, c9, A10, n10, c10, A11, n11, c11, A12, n12, c12, A13, n13, c13, rfl⟩ := Family.R_cells h7
  have H0 := Lib.hid h0
  have H1 := Lib.hid h1
  have H2 := Lib.hid h2
  have H3 := Lib.hid h3
  have H4 := Lib.hid h4
  have H5 := Lib.hid h5
  have H6 := Lib.hid h6
  have H7 := Lib.hid h7
  clear h0 h1 h2 h3 h4 h5 h6 h7
  simp only [List.cons_append, List.nil_append]
  go_enter Tryz.func49, Tryz.ntmps49
  go_wp2_with fail
  have L0 := Lib.hid (H0.out.len)
  refine (szIntS_any _ _ _ (q) _ hq0 hq2 mh0).mono ?_
  rintro e w1 ⟨rfl, xq⟩
  have x1 := Ext.of_eq xq
  clear xq
  have Q0 : Hid (Left (if (n0 : Int) ≤ q then q - n0 else -1) q (x.regs_.length)) := by show Left _ _ _; rw [L0.out]; exact Left.of_if
  generalize (if (n0 : Int) ≤ q then q - n0 else -1) = r0 at Q0
  have X1 : Ext w w1 := Ext.tr (((Ext.refl' w).al _)) x1
  have b1 : Hid (Bx w1 w.heap.size 124 (List.toArray ((.int .i64 x.phase_) :: (.int .i64 x.tries_) :: (.int .i64 x.spare_) :: (.int .i64 x.pc_) :: (.int .i64 x.rv_) :: (.int .i64 x.newRv_) :: (.int .i64 x.at_) :: (.int .i64 x.fate_) :: (.int .i64 x.stamp_) :: (.int .i64 x.began_) :: (.int .i64 x.ended_) :: (.bool x.doomed_) :: (.slice A0 n0 c0) :: (.slice A1 n1 c1) :: (.slice A2 n2 c2) :: (.slice A3 n3 c3) :: (.slice A4 n4 c4) :: (.slice A5 n5 c5) :: (.bool x.busy_) :: (.int .i64 x.probe_.cell_) :: (.int .i64 x.probe_.phase_) :: (.int .i64 x.probe_.ver_) :: (.int .i64 x.probe_.val_) :: (.int .i64 x.commit_.who_) :: (.int .i64 x.commit_.rv_) :: (.int .i64 x.commit_.phase_) :: (.int .i64 x.commit_.at_) :: (.int .i64 x.commit_.wv_) :: (.slice A6 n6 c6) :: (.slice A7 n7 c7) :: (.int .i64 x.fam_.rv_) :: (.int .i64 x.fam_.clock_) :: (.int .i64 x.fam_.owner_) :: (.bool x.fam_.lost_) :: (.slice A8 n8 c8) :: (.slice A9 n9 c9) :: (.slice A10 n10 c10) :: (.slice A11 n11 c11) :: (.slice A12 n12 c12) :: (.slice A13 n13 c13) :: []))) := Bx.ext (Bx.new' _ _ _ rfl) x1
  clear x1
  have R0 : Hid (Left r0 q (x.regs_.length)) := Q0
  by_cases g0 : 0 ≤ r0
  rotate_left
  · have e0 : r0 = -1 := by have a := R0.out; unfold Left at a; omega
    subst e0
    clear g0
    go_wp2
    go_ret
    exact ⟨-1, rfl, by have a := R0.out; unfold Left Root.wt at *; omega, X1⟩
  have u0 : r0 ≤ 1048576 := by have a := R0.out; unfold Left at a; omega
  have ca1_13 : w1.cell? ⟨w.heap.size, 13, none⟩ = some (.slice A1 n1 c1) := b1.out.cell 13
  go_wp2_with fail
  have L1 := Lib.hid (H1.out.flen Row.cells_length (by omega))
  refine (szRowS_any _ _ _ (r0) _ g0 u0 mh1).mono ?_
  rintro e w2 ⟨rfl, xq⟩
  have x2 := Ext.of_eq xq
  clear xq
  have Q1 : Hid (Left (if (n1 : Int) ≤ r0 then r0 - n1 else -1) r0 (x.reads_.length)) := by show Left _ _ _; rw [L1.out]; exact Left.of_if
  generalize (if (n1 : Int) ≤ r0 then r0 - n1 else -1) = r1 at Q1
  have X2 : Ext w w2 := Ext.tr (X1) x2
  have b2 : Hid (Bx w2 w.heap.size 124 (List.toArray ((.int .i64 x.phase_) :: (.int .i64 x.tries_) :: (.int .i64 x.spare_) :: (.int .i64 x.pc_) :: (.int .i64 x.rv_) :: (.int .i64 x.newRv_) :: (.int .i64 x.at_) :: (.int .i64 x.fate_) :: (.int .i64 x.stamp_) :: (.int .i64 x.began_) :: (.int .i64 x.ended_) :: (.bool x.doomed_) :: (.slice A0 n0 c0) :: (.slice A1 n1 c1) :: (.slice A2 n2 c2) :: (.slice A3 n3 c3) :: (.slice A4 n4 c4) :: (.slice A5 n5 c5) :: (.bool x.busy_) :: (.int .i64 x.probe_.cell_) :: (.int .i64 x.probe_.phase_) :: (.int .i64 x.probe_.ver_) :: (.int .i64 x.probe_.val_) :: (.int .i64 x.commit_.who_) :: (.int .i64 x.commit_.rv_) :: (.int .i64 x.commit_.phase_) :: (.int .i64 x.commit_.at_) :: (.int .i64 x.commit_.wv_) :: (.slice A6 n6 c6) :: (.slice A7 n7 c7) :: (.int .i64 x.fam_.rv_) :: (.int .i64 x.fam_.clock_) :: (.int .i64 x.fam_.owner_) :: (.bool x.fam_.lost_) :: (.slice A8 n8 c8) :: (.slice A9 n9 c9) :: (.slice A10 n10 c10) :: (.slice A11 n11 c11) :: (.slice A12 n12 c12) :: (.slice A13 n13 c13) :: []))) := Bx.ext (b1.out) x2
  clear x2
  have R1 : Hid (Left r1 q (x.regs_.length + x.reads_.length)) := by show Left _ _ _; have a := R0.out; have b := Q1.out; unfold Left at *; omega
  by_cases g1 : 0 ≤ r1
  rotate_left
  · have e1 : r1 = -1 := by have a := R1.out; unfold Left at a; omega
    subst e1
    clear g1
    go_wp2
    go_ret
    exact ⟨-1, rfl, by have a := R1.out; unfold Left Root.wt at *; omega, X2⟩
  have u1 : r1 ≤ 1048576 := by have a := R1.out; unfold Left at a; omega
  have ca2_14 : w2.cell? ⟨w.heap.size, 14, none⟩ = some (.slice A2 n2 c2) := b2.out.cell 14
  go_wp2_with fail
  have L2 := Lib.hid (H2.out.flen Row.cells_length (by omega))
  refine (szRowS_any _ _ _ (r1) _ g1 u1 mh2).mono ?_
  rintro e w3 ⟨rfl, xq⟩
  have x3 := Ext.of_eq xq
  clear xq
  have Q2 : Hid (Left (if (n2 : Int) ≤ r1 then r1 - n2 else -1) r1 (x.writes_.length)) := by show Left _ _ _; rw [L2.out]; exact Left.of_if
  generalize (if (n2 : Int) ≤ r1 then r1 - n2 else -1) = r2 at Q2
  have X3 : Ext w w3 := Ext.tr (X2) x3
  have b3 : Hid (Bx w3 w.heap.size 124 (List.toArray ((.int .i64 x.phase_) :: (.int .i64 x.tries_) :: (.int .i64 x.spare_) :: (.int .i64 x.pc_) :: (.int .i64 x.rv_) :: (.int .i64 x.newRv_) :: (.int .i64 x.at_) :: (.int .i64 x.fate_) :: (.int .i64 x.stamp_) :: (.int .i64 x.began_) :: (.int .i64 x.ended_) :: (.bool x.doomed_) :: (.slice A0 n0 c0) :: (.slice A1 n1 c1) :: (.slice A2 n2 c2) :: (.slice A3 n3 c3) :: (.slice A4 n4 c4) :: (.slice A5 n5 c5) :: (.bool x.busy_) :: (.int .i64 x.probe_.cell_) :: (.int .i64 x.probe_.phase_) :: (.int .i64 x.probe_.ver_) :: (.int .i64 x.probe_.val_) :: (.int .i64 x.commit_.who_) :: (.int .i64 x.commit_.rv_) :: (.int .i64 x.commit_.phase_) :: (.int .i64 x.commit_.at_) :: (.int .i64 x.commit_.wv_) :: (.slice A6 n6 c6) :: (.slice A7 n7 c7) :: (.int .i64 x.fam_.rv_) :: (.int .i64 x.fam_.clock_) :: (.int .i64 x.fam_.owner_) :: (.bool x.fam_.lost_) :: (.slice A8 n8 c8) :: (.slice A9 n9 c9) :: (.slice A10 n10 c10) :: (.slice A11 n11 c11) :: (.slice A12 n12 c12) :: (.slice A13 n13 c13) :: []))) := Bx.ext (b2.out) x3
  clear x3
  have R2 : Hid (Left r2 q (x.regs_.length + x.reads_.length + x.writes_.length)) := by show Left _ _ _; have a := R1.out; have b := Q2.out; unfold Left at *; omega
  by_cases g2 : 0 ≤ r2
  rotate_left
  · have e2 : r2 = -1 := by have a := R2.out; unfold Left at a; omega
    subst e2
    clear g2
    go_wp2
    go_ret
    exact ⟨-1, rfl, by have a := R2.out; unfold Left Root.wt at *; omega, X3⟩
  have u2 : r2 ≤ 1048576 := by have a := R2.out; unfold Left at a; omega
  have ca3_15 : w3.cell? ⟨w.heap.size, 15, none⟩ = some (.slice A3 n3 c3) := b3.out.cell 15
  go_wp2_with fail
  refine (szMarkS_any _ _ _ x.marks_ (r2) _ S (SlR.ext Mark.R_good H3.out (X3)) mh3 g2 u2).mono ?_
  rintro e w4 ⟨r3, rfl, Q3, x4⟩
  replace Q3 := Lib.hid Q3
  have X4 : Ext w w4 := Ext.tr (X3) x4
  have b4 : Hid (Bx w4 w.heap.size 124 (List.toArray ((.int .i64 x.phase_) :: (.int .i64 x.tries_) :: (.int .i64 x.spare_) :: (.int .i64 x.pc_) :: (.int .i64 x.rv_) :: (.int .i64 x.newRv_) :: (.int .i64 x.at_) :: (.int .i64 x.fate_) :: (.int .i64 x.stamp_) :: (.int .i64 x.began_) :: (.int .i64 x.ended_) :: (.bool x.doomed_) :: (.slice A0 n0 c0) :: (.slice A1 n1 c1) :: (.slice A2 n2 c2) :: (.slice A3 n3 c3) :: (.slice A4 n4 c4) :: (.slice A5 n5 c5) :: (.bool x.busy_) :: (.int .i64 x.probe_.cell_) :: (.int .i64 x.probe_.phase_) :: (.int .i64 x.probe_.ver_) :: (.int .i64 x.probe_.val_) :: (.int .i64 x.commit_.who_) :: (.int .i64 x.commit_.rv_) :: (.int .i64 x.commit_.phase_) :: (.int .i64 x.commit_.at_) :: (.int .i64 x.commit_.wv_) :: (.slice A6 n6 c6) :: (.slice A7 n7 c7) :: (.int .i64 x.fam_.rv_) :: (.int .i64 x.fam_.clock_) :: (.int .i64 x.fam_.owner_) :: (.bool x.fam_.lost_) :: (.slice A8 n8 c8) :: (.slice A9 n9 c9) :: (.slice A10 n10 c10) :: (.slice A11 n11 c11) :: (.slice A12 n12 c12) :: (.slice A13 n13 c13) :: []))) := Bx.ext (b3.out) x4
  clear x4
  have R3 : Hid (Left r3 q (x.regs_.length + x.reads_.length + x.writes_.length + wtl Mark.wt x.marks_)) := by show Left _ _ _; have a := R2.out; have b := Q3.out; unfold Left at *; omega
  by_cases g3 : 0 ≤ r3
  rotate_left
  · have e3 : r3 = -1 := by have a := R3.out; unfold Left at a; omega
    subst e3
    clear g3
    go_wp2
    go_ret
    exact ⟨-1, rfl, by have a := R3.out; unfold Left Root.wt at *; omega, X4⟩
  have u3 : r3 ≤ 1048576 := by have a := R3.out; unfold Left at a; omega
  have ca4_16 : w4.cell? ⟨w.heap.size, 16, none⟩ = some (.slice A4 n4 c4) := b4.out.cell 16
  go_wp2_with fail
  have L4 := Lib.hid (H4.out.flen Undo.cells_length (by omega))
  refine (szUndoS_any _ _ _ (r3) _ g3 u3 mh4).mono ?_
  rintro e w5 ⟨rfl, xq⟩
  have x5 := Ext.of_eq xq
  clear xq
  have Q4 : Hid (Left (if (n4 : Int) ≤ r3 then r3 - n4 else -1) r3 (x.undos_.length)) := by show Left _ _ _; rw [L4.out]; exact Left.of_if
  generalize (if (n4 : Int) ≤ r3 then r3 - n4 else -1) = r4 at Q4
  have X5 : Ext w w5 := Ext.tr (X4) x5
  have b5 : Hid (Bx w5 w.heap.size 124 (List.toArray ((.int .i64 x.phase_) :: (.int .i64 x.tries_) :: (.int .i64 x.spare_) :: (.int .i64 x.pc_) :: (.int .i64 x.rv_) :: (.int .i64 x.newRv_) :: (.int .i64 x.at_) :: (.int .i64 x.fate_) :: (.int .i64 x.stamp_) :: (.int .i64 x.began_) :: (.int .i64 x.ended_) :: (.bool x.doomed_) :: (.slice A0 n0 c0) :: (.slice A1 n1 c1) :: (.slice A2 n2 c2) :: (.slice A3 n3 c3) :: (.slice A4 n4 c4) :: (.slice A5 n5 c5) :: (.bool x.busy_) :: (.int .i64 x.probe_.cell_) :: (.int .i64 x.probe_.phase_) :: (.int .i64 x.probe_.ver_) :: (.int .i64 x.probe_.val_) :: (.int .i64 x.commit_.who_) :: (.int .i64 x.commit_.rv_) :: (.int .i64 x.commit_.phase_) :: (.int .i64 x.commit_.at_) :: (.int .i64 x.commit_.wv_) :: (.slice A6 n6 c6) :: (.slice A7 n7 c7) :: (.int .i64 x.fam_.rv_) :: (.int .i64 x.fam_.clock_) :: (.int .i64 x.fam_.owner_) :: (.bool x.fam_.lost_) :: (.slice A8 n8 c8) :: (.slice A9 n9 c9) :: (.slice A10 n10 c10) :: (.slice A11 n11 c11) :: (.slice A12 n12 c12) :: (.slice A13 n13 c13) :: []))) := Bx.ext (b4.out) x5
  clear x5
  have R4 : Hid (Left r4 q (x.regs_.length + x.reads_.length + x.writes_.length + wtl Mark.wt x.marks_ + x.undos_.length)) := by show Left _ _ _; have a := R3.out; have b := Q4.out; unfold Left at *; omega
  by_cases g4 : 0 ≤ r4
  rotate_left
  · have e4 : r4 = -1 := by have a := R4.out; unfold Left at a; omega
    subst e4
    clear g4
    go_wp2
    go_ret
    exact ⟨-1, rfl, by have a := R4.out; unfold Left Root.wt at *; omega, X5⟩
  have u4 : r4 ≤ 1048576 := by have a := R4.out; unfold Left at a; omega
  have ca5_17 : w5.cell? ⟨w.heap.size, 17, none⟩ = some (.slice A5 n5 c5) := b5.out.cell 17
  go_wp2_with fail
  have L5 := Lib.hid (H5.out.len)
  refine (szIntS_any _ _ _ (r4) _ g4 u4 mh5).mono ?_
  rintro e w6 ⟨rfl, xq⟩
  have x6 := Ext.of_eq xq
  clear xq
  have Q5 : Hid (Left (if (n5 : Int) ≤ r4 then r4 - n5 else -1) r4 (x.order_.length)) := by show Left _ _ _; rw [L5.out]; exact Left.of_if
  generalize (if (n5 : Int) ≤ r4 then r4 - n5 else -1) = r5 at Q5
  have X6 : Ext w w6 := Ext.tr (X5) x6
  have b6 : Hid (Bx w6 w.heap.size 124 (List.toArray ((.int .i64 x.phase_) :: (.int .i64 x.tries_) :: (.int .i64 x.spare_) :: (.int .i64 x.pc_) :: (.int .i64 x.rv_) :: (.int .i64 x.newRv_) :: (.int .i64 x.at_) :: (.int .i64 x.fate_) :: (.int .i64 x.stamp_) :: (.int .i64 x.began_) :: (.int .i64 x.ended_) :: (.bool x.doomed_) :: (.slice A0 n0 c0) :: (.slice A1 n1 c1) :: (.slice A2 n2 c2) :: (.slice A3 n3 c3) :: (.slice A4 n4 c4) :: (.slice A5 n5 c5) :: (.bool x.busy_) :: (.int .i64 x.probe_.cell_) :: (.int .i64 x.probe_.phase_) :: (.int .i64 x.probe_.ver_) :: (.int .i64 x.probe_.val_) :: (.int .i64 x.commit_.who_) :: (.int .i64 x.commit_.rv_) :: (.int .i64 x.commit_.phase_) :: (.int .i64 x.commit_.at_) :: (.int .i64 x.commit_.wv_) :: (.slice A6 n6 c6) :: (.slice A7 n7 c7) :: (.int .i64 x.fam_.rv_) :: (.int .i64 x.fam_.clock_) :: (.int .i64 x.fam_.owner_) :: (.bool x.fam_.lost_) :: (.slice A8 n8 c8) :: (.slice A9 n9 c9) :: (.slice A10 n10 c10) :: (.slice A11 n11 c11) :: (.slice A12 n12 c12) :: (.slice A13 n13 c13) :: []))) := Bx.ext (b5.out) x6
  clear x6
  have R5 : Hid (Left r5 q (x.regs_.length + x.reads_.length + x.writes_.length + wtl Mark.wt x.marks_ + x.undos_.length + x.order_.length)) := by show Left _ _ _; have a := R4.out; have b := Q5.out; unfold Left at *; omega
  by_cases g5 : 0 ≤ r5
  rotate_left
  · have e5 : r5 = -1 := by have a := R5.out; unfold Left at a; omega
    subst e5
    clear g5
    go_wp2
    go_ret
    exact ⟨-1, rfl, by have a := R5.out; unfold Left Root.wt at *; omega, X6⟩
  have u5 : r5 ≤ 1048576 := by have a := R5.out; unfold Left at a; omega
  have ca6_23 : w6.cell? ⟨w.heap.size, 23, none⟩ = some (.int .i64 x.commit_.who_) := b6.out.cell 23
  have ca6_24 : w6.cell? ⟨w.heap.size, 24, none⟩ = some (.int .i64 x.commit_.rv_) := b6.out.cell 24
  have ca6_25 : w6.cell? ⟨w.heap.size, 25, none⟩ = some (.int .i64 x.commit_.phase_) := b6.out.cell 25
  have ca6_26 : w6.cell? ⟨w.heap.size, 26, none⟩ = some (.int .i64 x.commit_.at_) := b6.out.cell 26
  have ca6_27 : w6.cell? ⟨w.heap.size, 27, none⟩ = some (.int .i64 x.commit_.wv_) := b6.out.cell 27
  have ca6_28 : w6.cell? ⟨w.heap.size, 28, none⟩ = some (.slice A6 n6 c6) := b6.out.cell 28
  have ca6_29 : w6.cell? ⟨w.heap.size, 29, none⟩ = some (.slice A7 n7 c7) := b6.out.cell 29
  go_wp2_with fail
  refine (szCommit_any x.commit_ _ (r5) _ S (Commit.R_good.ext H6.out (X6)) g5 u5).mono ?_
  rintro e w7 ⟨r6, rfl, Q6, x7⟩
  replace Q6 := Lib.hid Q6
  have X7 : Ext w w7 := Ext.tr (X6) x7
  have b7 : Hid (Bx w7 w.heap.size 124 (List.toArray ((.int .i64 x.phase_) :: (.int .i64 x.tries_) :: (.int .i64 x.spare_) :: (.int .i64 x.pc_) :: (.int .i64 x.rv_) :: (.int .i64 x.newRv_) :: (.int .i64 x.at_) :: (.int .i64 x.fate_) :: (.int .i64 x.stamp_) :: (.int .i64 x.began_) :: (.int .i64 x.ended_) :: (.bool x.doomed_) :: (.slice A0 n0 c0) :: (.slice A1 n1 c1) :: (.slice A2 n2 c2) :: (.slice A3 n3 c3) :: (.slice A4 n4 c4) :: (.slice A5 n5 c5) :: (.bool x.busy_) :: (.int .i64 x.probe_.cell_) :: (.int .i64 x.probe_.phase_) :: (.int .i64 x.probe_.ver_) :: (.int .i64 x.probe_.val_) :: (.int .i64 x.commit_.who_) :: (.int .i64 x.commit_.rv_) :: (.int .i64 x.commit_.phase_) :: (.int .i64 x.commit_.at_) :: (.int .i64 x.commit_.wv_) :: (.slice A6 n6 c6) :: (.slice A7 n7 c7) :: (.int .i64 x.fam_.rv_) :: (.int .i64 x.fam_.clock_) :: (.int .i64 x.fam_.owner_) :: (.bool x.fam_.lost_) :: (.slice A8 n8 c8) :: (.slice A9 n9 c9) :: (.slice A10 n10 c10) :: (.slice A11 n11 c11) :: (.slice A12 n12 c12) :: (.slice A13 n13 c13) :: []))) := Bx.ext (b6.out) x7
  clear x7
  have R6 : Hid (Left r6 q (x.regs_.length + x.reads_.length + x.writes_.length + wtl Mark.wt x.marks_ + x.undos_.length + x.order_.length + Commit.wt x.commit_)) := by show Left _ _ _; have a := R5.out; have b := Q6.out; unfold Left at *; omega
  by_cases g6 : 0 ≤ r6
  rotate_left
  · have e6 : r6 = -1 := by have a := R6.out; unfold Left at a; omega
    subst e6
    clear g6
    go_wp2
    go_ret
    exact ⟨-1, rfl, by have a := R6.out; unfold Left Root.wt at *; omega, X7⟩
  have u6 : r6 ≤ 1048576 := by have a := R6.out; unfold Left at a; omega
  have ca7_30 : w7.cell? ⟨w.heap.size, 30, none⟩ = some (.int .i64 x.fam_.rv_) := b7.out.cell 30
  have ca7_31 : w7.cell? ⟨w.heap.size, 31, none⟩ = some (.int .i64 x.fam_.clock_) := b7.out.cell 31
  have ca7_32 : w7.cell? ⟨w.heap.size, 32, none⟩ = some (.int .i64 x.fam_.owner_) := b7.out.cell 32
  have ca7_33 : w7.cell? ⟨w.heap.size, 33, none⟩ = some (.bool x.fam_.lost_) := b7.out.cell 33
  have ca7_34 : w7.cell? ⟨w.heap.size, 34, none⟩ = some (.slice A8 n8 c8) := b7.out.cell 34
  have ca7_35 : w7.cell? ⟨w.heap.size, 35, none⟩ = some (.slice A9 n9 c9) := b7.out.cell 35
  have ca7_36 : w7.cell? ⟨w.heap.size, 36, none⟩ = some (.slice A10 n10 c10) := b7.out.cell 36
  have ca7_37 : w7.cell? ⟨w.heap.size, 37, none⟩ = some (.slice A11 n11 c11) := b7.out.cell 37
  have ca7_38 : w7.cell? ⟨w.heap.size, 38, none⟩ = some (.slice A12 n12 c12) := b7.out.cell 38
  have ca7_39 : w7.cell? ⟨w.heap.size, 39, none⟩ = some (.slice A13 n13 c13) := b7.out.cell 39
  go_wp2_with fail
  refine (szFamily_any x.fam_ _ (r6) _ S (Family.R_good.ext H7.out (X7)) g6 u6).mono ?_
  rintro e w8 ⟨r7, rfl, Q7, x8⟩
  replace Q7 := Lib.hid Q7
  have X8 : Ext w w8 := Ext.tr (X7) x8
  have b8 : Hid (Bx w8 w.heap.size 124 (List.toArray ((.int .i64 x.phase_) :: (.int .i64 x.tries_) :: (.int .i64 x.spare_) :: (.int .i64 x.pc_) :: (.int .i64 x.rv_) :: (.int .i64 x.newRv_) :: (.int .i64 x.at_) :: (.int .i64 x.fate_) :: (.int .i64 x.stamp_) :: (.int .i64 x.began_) :: (.int .i64 x.ended_) :: (.bool x.doomed_) :: (.slice A0 n0 c0) :: (.slice A1 n1 c1) :: (.slice A2 n2 c2) :: (.slice A3 n3 c3) :: (.slice A4 n4 c4) :: (.slice A5 n5 c5) :: (.bool x.busy_) :: (.int .i64 x.probe_.cell_) :: (.int .i64 x.probe_.phase_) :: (.int .i64 x.probe_.ver_) :: (.int .i64 x.probe_.val_) :: (.int .i64 x.commit_.who_) :: (.int .i64 x.commit_.rv_) :: (.int .i64 x.commit_.phase_) :: (.int .i64 x.commit_.at_) :: (.int .i64 x.commit_.wv_) :: (.slice A6 n6 c6) :: (.slice A7 n7 c7) :: (.int .i64 x.fam_.rv_) :: (.int .i64 x.fam_.clock_) :: (.int .i64 x.fam_.owner_) :: (.bool x.fam_.lost_) :: (.slice A8 n8 c8) :: (.slice A9 n9 c9) :: (.slice A10 n10 c10) :: (.slice A11 n11 c11) :: (.slice A12 n12 c12) :: (.slice A13 n13 c13) :: []))) := Bx.ext (b7.out) x8
  clear x8
  have R7 : Hid (Left r7 q (x.regs_.length + x.reads_.length + x.writes_.length + wtl Mark.wt x.marks_ + x.undos_.length + x.order_.length + Commit.wt x.commit_ + Family.wt x.fam_)) := by show Left _ _ _; have a := R6.out; have b := Q7.out; unfold Left at *; omega
  by_cases g7 : 0 ≤ r7
  rotate_left
  · have e7 : r7 = -1 := by have a := R7.out; unfold Left at a; omega
    subst e7
    clear g7
    go_wp2
    go_ret
    exact ⟨-1, rfl, by have a := R7.out; unfold Left Root.wt at *; omega, X8⟩
  have u7 : r7 ≤ 1048576 := by have a := R7.out; unfold Left at a; omega
  go_wp2
  go_ret
  exact ⟨r7, rfl, R7.out, X8⟩

end Go.Proofs.YtglplgbhhnmgbaaGreat
