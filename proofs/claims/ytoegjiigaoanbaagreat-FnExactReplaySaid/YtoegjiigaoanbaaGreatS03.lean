/- Root: its size. No condition. Root: its copy. No condition but the size. Roots compared. No condition. Root: all its helpers. No condition. The laws' helpers on Word and Hold. No condition but lengths. -/
import Derived.Test.YtoegjiigaoanbaaGreatS02
import Derived.Test.YtoegjiigaoanbaaGreatS00
namespace Go.Proofs.YtoegjiigaoanbaaGreat
open Go.RowKit Go.Deep
set_option linter.unnecessarySimpa false
set_option maxHeartbeats 400000000
open Go.Lib (hid)

set_option maxRecDepth 8000 in
theorem szRoot_any (x : Root) (cs : List Value) (q : Int) (w : World) (S : Nat → Prop) (h : Root.R w S cs x) (hq0 : 0 ≤ q) (hq2 : q ≤ 1048576) :
  Calls Tryz.prog 76 #[.agg cs.toArray,.int .i64 q] w fun e w' => ∃ r : Int,e = .returned (.int .i64 r) ∧ Left r q (Root.wt x) ∧ Ext w w':=by
 obtain ⟨A0,n0,c0,A1,n1,c1,A2,n2,c2,A3,n3,c3,A4,n4,c4,A5,n5,c5,v6,v7,rfl,⟨kh0,mh0,h0⟩,⟨kh1,mh1,h1⟩,⟨kh2,mh2,h2⟩,⟨kh3,mh3,h3⟩,⟨kh4,mh4,h4⟩,⟨kh5,mh5,h5⟩,h6,h7⟩:=h
 obtain ⟨A6,n6,c6,A7,n7,c7,rfl⟩:=Commit.R_cells h6
 obtain ⟨A8,n8,c8,A9,n9,c9,A10,n10,c10,A11,n11,c11,A12,n12,c12,A13,n13,c13,rfl⟩:=Family.R_cells h7
 have H0:=hid h0
 have H1:=hid h1
 have H2:=hid h2
 have H3:=hid h3
 have H4:=hid h4
 have H5:=hid h5
 have H6:=hid h6
 have H7:=hid h7
 clear h0 h1 h2 h3 h4 h5 h6 h7
 simp only [List.cons_append,List.nil_append]
 go_enter Tryz.func76,Tryz.ntmps76
 go_wp2_with fail
 have L0:=hid (H0.out.len)
 refine (szIntS_any _ _ _ (q) _ hq0 hq2 mh0).mono ?_
 rintro e w1 ⟨rfl,xq⟩
 have x1:=Ext.of_eq xq
 clear xq
 have Q0 : Hid (Left (if (n0 : Int) ≤ q then q - n0 else -1) q (x.regs_.length)):=by show Left _ _ _;rw [L0.out];exact Left.of_if
 generalize (if (n0 : Int) ≤ q then q - n0 else -1) = r0 at Q0
 have X1 : Ext w w1:=Ext.tr (((Ext.refl' w).al _)) x1
 have b1 : Hid (Bx w1 w.heap.size 149 (zRt x (.slice A0 n0 c0) (.slice A1 n1 c1) (.slice A2 n2 c2) (.slice A3 n3 c3) (.slice A4 n4 c4) (.slice A5 n5 c5) (.slice A6 n6 c6) (.slice A7 n7 c7) (.slice A8 n8 c8) (.slice A9 n9 c9) (.slice A10 n10 c10) (.slice A11 n11 c11) (.slice A12 n12 c12) (.slice A13 n13 c13))):=Bx.ext (Bx.new' _ _ _ rfl) x1
 clear x1
 have R0 : Hid (Left r0 q (x.regs_.length)):=Q0
 by_cases g0 : 0 ≤ r0
 rotate_left
 ·have e0 : r0 = -1:=by have a:=R0.out;unfold Left at a;omega
  subst e0
  clear g0
  go_wp2
  go_ret
  exact ⟨-1,rfl,by have a:=R0.out;unfold Left Root.wt at *;omega,X1⟩
 have u0 : r0 ≤ 1048576:=by have a:=R0.out;unfold Left at a;omega
 have ca1_13 : w1.cell? ⟨w.heap.size,13,none⟩ = some (.slice A1 n1 c1):=b1.out.cell 13
 go_wp2_with fail
 have L1:=hid (H1.out.flen Row.cells_length (by omega))
 refine (szRowS_any _ _ _ (r0) _ g0 u0 mh1).mono ?_
 rintro e w2 ⟨rfl,xq⟩
 have x2:=Ext.of_eq xq
 clear xq
 have Q1 : Hid (Left (if (n1 : Int) ≤ r0 then r0 - n1 else -1) r0 (x.reads_.length)):=by show Left _ _ _;rw [L1.out];exact Left.of_if
 generalize (if (n1 : Int) ≤ r0 then r0 - n1 else -1) = r1 at Q1
 have X2 : Ext w w2:=Ext.tr (X1) x2
 have b2 : Hid (Bx w2 w.heap.size 149 (zRt x (.slice A0 n0 c0) (.slice A1 n1 c1) (.slice A2 n2 c2) (.slice A3 n3 c3) (.slice A4 n4 c4) (.slice A5 n5 c5) (.slice A6 n6 c6) (.slice A7 n7 c7) (.slice A8 n8 c8) (.slice A9 n9 c9) (.slice A10 n10 c10) (.slice A11 n11 c11) (.slice A12 n12 c12) (.slice A13 n13 c13))):=Bx.ext (b1.out) x2
 clear x2
 have R1 : Hid (Left r1 q (x.regs_.length + x.reads_.length)):=by show Left _ _ _;have a:=R0.out;have b:=Q1.out;unfold Left at *;omega
 by_cases g1 : 0 ≤ r1
 rotate_left
 ·have e1 : r1 = -1:=by have a:=R1.out;unfold Left at a;omega
  subst e1
  clear g1
  go_wp2
  go_ret
  exact ⟨-1,rfl,by have a:=R1.out;unfold Left Root.wt at *;omega,X2⟩
 have u1 : r1 ≤ 1048576:=by have a:=R1.out;unfold Left at a;omega
 have ca2_14 : w2.cell? ⟨w.heap.size,14,none⟩ = some (.slice A2 n2 c2):=b2.out.cell 14
 go_wp2_with fail
 have L2:=hid (H2.out.flen Row.cells_length (by omega))
 refine (szRowS_any _ _ _ (r1) _ g1 u1 mh2).mono ?_
 rintro e w3 ⟨rfl,xq⟩
 have x3:=Ext.of_eq xq
 clear xq
 have Q2 : Hid (Left (if (n2 : Int) ≤ r1 then r1 - n2 else -1) r1 (x.writes_.length)):=by show Left _ _ _;rw [L2.out];exact Left.of_if
 generalize (if (n2 : Int) ≤ r1 then r1 - n2 else -1) = r2 at Q2
 have X3 : Ext w w3:=Ext.tr (X2) x3
 have b3 : Hid (Bx w3 w.heap.size 149 (zRt x (.slice A0 n0 c0) (.slice A1 n1 c1) (.slice A2 n2 c2) (.slice A3 n3 c3) (.slice A4 n4 c4) (.slice A5 n5 c5) (.slice A6 n6 c6) (.slice A7 n7 c7) (.slice A8 n8 c8) (.slice A9 n9 c9) (.slice A10 n10 c10) (.slice A11 n11 c11) (.slice A12 n12 c12) (.slice A13 n13 c13))):=Bx.ext (b2.out) x3
 clear x3
 have R2 : Hid (Left r2 q (x.regs_.length + x.reads_.length + x.writes_.length)):=by show Left _ _ _;have a:=R1.out;have b:=Q2.out;unfold Left at *;omega
 by_cases g2 : 0 ≤ r2
 rotate_left
 ·have e2 : r2 = -1:=by have a:=R2.out;unfold Left at a;omega
  subst e2
  clear g2
  go_wp2
  go_ret
  exact ⟨-1,rfl,by have a:=R2.out;unfold Left Root.wt at *;omega,X3⟩
 have u2 : r2 ≤ 1048576:=by have a:=R2.out;unfold Left at a;omega
 have ca3_15 : w3.cell? ⟨w.heap.size,15,none⟩ = some (.slice A3 n3 c3):=b3.out.cell 15
 go_wp2_with fail
 refine (szMarkS_any _ _ _ x.marks_ (r2) _ S (SlR.ext Mark.R_good H3.out (X3)) mh3 g2 u2).mono ?_
 rintro e w4 ⟨r3,rfl,Q3,x4⟩
 replace Q3:=hid Q3
 have X4 : Ext w w4:=Ext.tr (X3) x4
 have b4 : Hid (Bx w4 w.heap.size 149 (zRt x (.slice A0 n0 c0) (.slice A1 n1 c1) (.slice A2 n2 c2) (.slice A3 n3 c3) (.slice A4 n4 c4) (.slice A5 n5 c5) (.slice A6 n6 c6) (.slice A7 n7 c7) (.slice A8 n8 c8) (.slice A9 n9 c9) (.slice A10 n10 c10) (.slice A11 n11 c11) (.slice A12 n12 c12) (.slice A13 n13 c13))):=Bx.ext (b3.out) x4
 clear x4
 have R3 : Hid (Left r3 q (x.regs_.length + x.reads_.length + x.writes_.length + wtl Mark.wt x.marks_)):=by show Left _ _ _;have a:=R2.out;have b:=Q3.out;unfold Left at *;omega
 by_cases g3 : 0 ≤ r3
 rotate_left
 ·have e3 : r3 = -1:=by have a:=R3.out;unfold Left at a;omega
  subst e3
  clear g3
  go_wp2
  go_ret
  exact ⟨-1,rfl,by have a:=R3.out;unfold Left Root.wt at *;omega,X4⟩
 have u3 : r3 ≤ 1048576:=by have a:=R3.out;unfold Left at a;omega
 have ca4_16 : w4.cell? ⟨w.heap.size,16,none⟩ = some (.slice A4 n4 c4):=b4.out.cell 16
 go_wp2_with fail
 have L4:=hid (H4.out.flen Undo.cells_length (by omega))
 refine (szUndoS_any _ _ _ (r3) _ g3 u3 mh4).mono ?_
 rintro e w5 ⟨rfl,xq⟩
 have x5:=Ext.of_eq xq
 clear xq
 have Q4 : Hid (Left (if (n4 : Int) ≤ r3 then r3 - n4 else -1) r3 (x.undos_.length)):=by show Left _ _ _;rw [L4.out];exact Left.of_if
 generalize (if (n4 : Int) ≤ r3 then r3 - n4 else -1) = r4 at Q4
 have X5 : Ext w w5:=Ext.tr (X4) x5
 have b5 : Hid (Bx w5 w.heap.size 149 (zRt x (.slice A0 n0 c0) (.slice A1 n1 c1) (.slice A2 n2 c2) (.slice A3 n3 c3) (.slice A4 n4 c4) (.slice A5 n5 c5) (.slice A6 n6 c6) (.slice A7 n7 c7) (.slice A8 n8 c8) (.slice A9 n9 c9) (.slice A10 n10 c10) (.slice A11 n11 c11) (.slice A12 n12 c12) (.slice A13 n13 c13))):=Bx.ext (b4.out) x5
 clear x5
 have R4 : Hid (Left r4 q (x.regs_.length + x.reads_.length + x.writes_.length + wtl Mark.wt x.marks_ + x.undos_.length)):=by show Left _ _ _;have a:=R3.out;have b:=Q4.out;unfold Left at *;omega
 by_cases g4 : 0 ≤ r4
 rotate_left
 ·have e4 : r4 = -1:=by have a:=R4.out;unfold Left at a;omega
  subst e4
  clear g4
  go_wp2
  go_ret
  exact ⟨-1,rfl,by have a:=R4.out;unfold Left Root.wt at *;omega,X5⟩
 have u4 : r4 ≤ 1048576:=by have a:=R4.out;unfold Left at a;omega
 have ca5_17 : w5.cell? ⟨w.heap.size,17,none⟩ = some (.slice A5 n5 c5):=b5.out.cell 17
 go_wp2_with fail
 have L5:=hid (H5.out.len)
 refine (szIntS_any _ _ _ (r4) _ g4 u4 mh5).mono ?_
 rintro e w6 ⟨rfl,xq⟩
 have x6:=Ext.of_eq xq
 clear xq
 have Q5 : Hid (Left (if (n5 : Int) ≤ r4 then r4 - n5 else -1) r4 (x.order_.length)):=by show Left _ _ _;rw [L5.out];exact Left.of_if
 generalize (if (n5 : Int) ≤ r4 then r4 - n5 else -1) = r5 at Q5
 have X6 : Ext w w6:=Ext.tr (X5) x6
 have b6 : Hid (Bx w6 w.heap.size 149 (zRt x (.slice A0 n0 c0) (.slice A1 n1 c1) (.slice A2 n2 c2) (.slice A3 n3 c3) (.slice A4 n4 c4) (.slice A5 n5 c5) (.slice A6 n6 c6) (.slice A7 n7 c7) (.slice A8 n8 c8) (.slice A9 n9 c9) (.slice A10 n10 c10) (.slice A11 n11 c11) (.slice A12 n12 c12) (.slice A13 n13 c13))):=Bx.ext (b5.out) x6
 clear x6
 have R5 : Hid (Left r5 q (x.regs_.length + x.reads_.length + x.writes_.length + wtl Mark.wt x.marks_ + x.undos_.length + x.order_.length)):=by show Left _ _ _;have a:=R4.out;have b:=Q5.out;unfold Left at *;omega
 by_cases g5 : 0 ≤ r5
 rotate_left
 ·have e5 : r5 = -1:=by have a:=R5.out;unfold Left at a;omega
  subst e5
  clear g5
  go_wp2
  go_ret
  exact ⟨-1,rfl,by have a:=R5.out;unfold Left Root.wt at *;omega,X6⟩
 have u5 : r5 ≤ 1048576:=by have a:=R5.out;unfold Left at a;omega
 have ca6_23 : w6.cell? ⟨w.heap.size,23,none⟩ = some (.int .i64 x.commit_.who_):=b6.out.cell 23
 have ca6_24 : w6.cell? ⟨w.heap.size,24,none⟩ = some (.int .i64 x.commit_.rv_):=b6.out.cell 24
 have ca6_25 : w6.cell? ⟨w.heap.size,25,none⟩ = some (.int .i64 x.commit_.phase_):=b6.out.cell 25
 have ca6_26 : w6.cell? ⟨w.heap.size,26,none⟩ = some (.int .i64 x.commit_.at_):=b6.out.cell 26
 have ca6_27 : w6.cell? ⟨w.heap.size,27,none⟩ = some (.int .i64 x.commit_.wv_):=b6.out.cell 27
 have ca6_28 : w6.cell? ⟨w.heap.size,28,none⟩ = some (.slice A6 n6 c6):=b6.out.cell 28
 have ca6_29 : w6.cell? ⟨w.heap.size,29,none⟩ = some (.slice A7 n7 c7):=b6.out.cell 29
 go_wp2_with fail
 refine (szCommit_any x.commit_ _ (r5) _ S (Commit.R_good.ext H6.out (X6)) g5 u5).mono ?_
 rintro e w7 ⟨r6,rfl,Q6,x7⟩
 replace Q6:=hid Q6
 have X7 : Ext w w7:=Ext.tr (X6) x7
 have b7 : Hid (Bx w7 w.heap.size 149 (zRt x (.slice A0 n0 c0) (.slice A1 n1 c1) (.slice A2 n2 c2) (.slice A3 n3 c3) (.slice A4 n4 c4) (.slice A5 n5 c5) (.slice A6 n6 c6) (.slice A7 n7 c7) (.slice A8 n8 c8) (.slice A9 n9 c9) (.slice A10 n10 c10) (.slice A11 n11 c11) (.slice A12 n12 c12) (.slice A13 n13 c13))):=Bx.ext (b6.out) x7
 clear x7
 have R6 : Hid (Left r6 q (x.regs_.length + x.reads_.length + x.writes_.length + wtl Mark.wt x.marks_ + x.undos_.length + x.order_.length + Commit.wt x.commit_)):=by show Left _ _ _;have a:=R5.out;have b:=Q6.out;unfold Left at *;omega
 by_cases g6 : 0 ≤ r6
 rotate_left
 ·have e6 : r6 = -1:=by have a:=R6.out;unfold Left at a;omega
  subst e6
  clear g6
  go_wp2
  go_ret
  exact ⟨-1,rfl,by have a:=R6.out;unfold Left Root.wt at *;omega,X7⟩
 have u6 : r6 ≤ 1048576:=by have a:=R6.out;unfold Left at a;omega
 have ca7_30 : w7.cell? ⟨w.heap.size,30,none⟩ = some (.int .i64 x.fam_.rv_):=b7.out.cell 30
 have ca7_31 : w7.cell? ⟨w.heap.size,31,none⟩ = some (.int .i64 x.fam_.clock_):=b7.out.cell 31
 have ca7_32 : w7.cell? ⟨w.heap.size,32,none⟩ = some (.int .i64 x.fam_.owner_):=b7.out.cell 32
 have ca7_33 : w7.cell? ⟨w.heap.size,33,none⟩ = some (.bool x.fam_.lost_):=b7.out.cell 33
 have ca7_34 : w7.cell? ⟨w.heap.size,34,none⟩ = some (.slice A8 n8 c8):=b7.out.cell 34
 have ca7_35 : w7.cell? ⟨w.heap.size,35,none⟩ = some (.slice A9 n9 c9):=b7.out.cell 35
 have ca7_36 : w7.cell? ⟨w.heap.size,36,none⟩ = some (.slice A10 n10 c10):=b7.out.cell 36
 have ca7_37 : w7.cell? ⟨w.heap.size,37,none⟩ = some (.slice A11 n11 c11):=b7.out.cell 37
 have ca7_38 : w7.cell? ⟨w.heap.size,38,none⟩ = some (.slice A12 n12 c12):=b7.out.cell 38
 have ca7_39 : w7.cell? ⟨w.heap.size,39,none⟩ = some (.slice A13 n13 c13):=b7.out.cell 39
 go_wp2_with fail
 refine (szFamily_any x.fam_ _ (r6) _ S (Family.R_good.ext H7.out (X7)) g6 u6).mono ?_
 rintro e w8 ⟨r7,rfl,Q7,x8⟩
 replace Q7:=hid Q7
 have X8 : Ext w w8:=Ext.tr (X7) x8
 have b8 : Hid (Bx w8 w.heap.size 149 (zRt x (.slice A0 n0 c0) (.slice A1 n1 c1) (.slice A2 n2 c2) (.slice A3 n3 c3) (.slice A4 n4 c4) (.slice A5 n5 c5) (.slice A6 n6 c6) (.slice A7 n7 c7) (.slice A8 n8 c8) (.slice A9 n9 c9) (.slice A10 n10 c10) (.slice A11 n11 c11) (.slice A12 n12 c12) (.slice A13 n13 c13))):=Bx.ext (b7.out) x8
 clear x8
 have R7 : Hid (Left r7 q (x.regs_.length + x.reads_.length + x.writes_.length + wtl Mark.wt x.marks_ + x.undos_.length + x.order_.length + Commit.wt x.commit_ + Family.wt x.fam_)):=by show Left _ _ _;have a:=R6.out;have b:=Q7.out;unfold Left at *;omega
 by_cases g7 : 0 ≤ r7
 rotate_left
 ·have e7 : r7 = -1:=by have a:=R7.out;unfold Left at a;omega
  subst e7
  clear g7
  go_wp2
  go_ret
  exact ⟨-1,rfl,by have a:=R7.out;unfold Left Root.wt at *;omega,X8⟩
 have u7 : r7 ≤ 1048576:=by have a:=R7.out;unfold Left at a;omega
 go_wp2
 go_ret
 exact ⟨r7,rfl,R7.out,X8⟩

end Go.Proofs.YtoegjiigaoanbaaGreat
namespace Go.Proofs.YtoegjiigaoanbaaGreat
open Go.RowKit Go.Deep
set_option linter.unnecessarySimpa false
set_option maxHeartbeats 400000000
open Go.Lib (hid)
theorem Root.size_info : (Tryz.prog.info? 97).map (·.size) = some 40:=by kernel_rfl
theorem Root.size_laws : (Tryz.prog.info? 149).map (·.size) = some 40:=by kernel_rfl
theorem Root.W_one {w : World} {S : Nat → Prop} {cs : List Value} {x : Root} (h : Root.W w S cs x) : ∀ v ∈ cs,v.oneCell' = true:=by
 obtain ⟨A0,n0,c0,A1,n1,c1,A2,n2,c2,A3,n3,c3,A4,n4,c4,A5,n5,c5,A6,n6,c6,A7,n7,c7,A8,n8,c8,A9,n9,c9,A10,n10,c10,A11,n11,c11,A12,n12,c12,A13,n13,c13,rfl⟩:=Root.W_cells h
 simp [Value.oneCell']
set_option maxRecDepth 8000 in
theorem toRoot_any (x : Root) (cs : List Value) (w : World) (S : Nat → Prop) (h : Root.R w S cs x) (hw : Root.wt x ≤ 1048576) :
  Calls Tryz.prog 89 #[.agg cs.toArray] w fun e w' => ∃ cs',e = .returned (.agg cs'.toArray) ∧ Root.W w' (fun g => w.heap.size ≤ g ∧ g < w'.heap.size) cs' x ∧ Ext w w':=by
 obtain ⟨A0,n0,c0,A1,n1,c1,A2,n2,c2,A3,n3,c3,A4,n4,c4,A5,n5,c5,v6,v7,rfl,⟨kh0,mh0,h0⟩,⟨kh1,mh1,h1⟩,⟨kh2,mh2,h2⟩,⟨kh3,mh3,h3⟩,⟨kh4,mh4,h4⟩,⟨kh5,mh5,h5⟩,h6,h7⟩:=h
 obtain ⟨A6,n6,c6,A7,n7,c7,rfl⟩:=Commit.R_cells h6
 obtain ⟨A8,n8,c8,A9,n9,c9,A10,n10,c10,A11,n11,c11,A12,n12,c12,A13,n13,c13,rfl⟩:=Family.R_cells h7
 unfold Root.wt at hw
 have l0:=h0.len
 have n_0 : n0 ≤ 1048576:=by omega
 have l1:=h1.flen Row.cells_length (by omega)
 have n_1 : n1 ≤ 1048576:=by omega
 have l2:=h2.flen Row.cells_length (by omega)
 have n_2 : n2 ≤ 1048576:=by omega
 have l3:=h3.1
 have t3:=wtl_len Mark.wt x.marks_
 have n_3 : n3 ≤ 1048576:=by omega
 have W_3 : wtl Mark.wt x.marks_ ≤ 1048576:=by omega
 have l4:=h4.flen Undo.cells_length (by omega)
 have n_4 : n4 ≤ 1048576:=by omega
 have l5:=h5.len
 have n_5 : n5 ≤ 1048576:=by omega
 have W_6 : Commit.wt x.commit_ ≤ 1048576:=by omega
 have W_7 : Family.wt x.fam_ ≤ 1048576:=by omega
 have H0:=hid h0
 have H1:=hid h1
 have H2:=hid h2
 have H3:=hid h3
 have H4:=hid h4
 have H5:=hid h5
 have H6:=hid h6
 have H7:=hid h7
 clear h0 h1 h2 h3 h4 h5 h6 h7 hw l0 l1 l2 l3 l4 l5 t3
 simp only [List.cons_append,List.nil_append]
 go_enter Tryz.func89,Tryz.ntmps89
 go_wp2_with fail
 refine (toIntS_any _ _ _ _ _ S (H0.out.ext ((((Ext.refl' w).al _).al _).al _)) n_0).mono ?_
 rintro e w1 ⟨B0,d0,rfl,o0,x1⟩
 have K0 : Hid (n0 ≤ d0):=own_cap o0
 replace o0:=hid (OwS.of_own o0)
 have z1 : w.heap.size + 3 ≤ w1.heap.size:=by have h:=x1.size;(try simp at h);omega
 have ba1 : Hid (Bx w1 (w.heap.size) 149 (zRt x (.slice A0 n0 c0) (.slice A1 n1 c1) (.slice A2 n2 c2) (.slice A3 n3 c3) (.slice A4 n4 c4) (.slice A5 n5 c5) (.slice A6 n6 c6) (.slice A7 n7 c7) (.slice A8 n8 c8) (.slice A9 n9 c9) (.slice A10 n10 c10) (.slice A11 n11 c11) (.slice A12 n12 c12) (.slice A13 n13 c13))):=Bx.ext (((Bx.new' _ _ _ rfl).al _).al _) x1
 have br1 : Hid (Bx w1 (w.heap.size + 1) 97 zRz):=Bx.ext ((Bx.new' _ _ _ (by simp)).al _) x1
 have bo1 : Hid (Bx w1 (w.heap.size + 2) 97 (List.toArray ((.int .i64 x.phase_)::(.int .i64 x.tries_)::(.int .i64 x.spare_)::(.int .i64 x.pc_)::(.int .i64 x.rv_)::(.int .i64 x.newRv_)::(.int .i64 x.at_)::(.int .i64 x.fate_)::(.int .i64 x.stamp_)::(.int .i64 x.began_)::(.int .i64 x.ended_)::(.bool x.doomed_)::(.slice none 0 0)::(.slice none 0 0)::(.slice none 0 0)::(.slice none 0 0)::(.slice none 0 0)::(.slice none 0 0)::(.bool false)::(.int .i64 0)::(.int .i64 0)::(.int .i64 0)::(.int .i64 0)::(.int .i64 0)::(.int .i64 0)::(.int .i64 0)::(.int .i64 0)::(.int .i64 0)::(.slice none 0 0)::(.slice none 0 0)::(.int .i64 0)::(.int .i64 0)::(.int .i64 0)::(.bool false)::(.slice none 0 0)::(.slice none 0 0)::(.slice none 0 0)::(.slice none 0 0)::(.slice none 0 0)::(.slice none 0 0)::[]))):=Bx.ext (Bx.new' _ _ _ (by simp)) x1
 have X1 : Ext w w1:=Ext.tr ((((Ext.refl' w).al _).al _).al _) x1
 replace o0 : Hid (OwS w1 (fun g => w.heap.size + 3 ≤ g ∧ g < w1.heap.size) 3 1 B0 n0 d0 (ints x.regs_)):=o0.out.mono (fun g _ hg => by have h1:=hg.1;have h2:=hg.2;constructor <;> (try simp at h1) <;> omega)
 clear x1
 have ca1_13 : w1.cell? ⟨w.heap.size,13,none⟩ = some (.slice A1 n1 c1):=ba1.out.cell 13
 have co1_12 : w1.cell? ⟨w.heap.size + 2,12,none⟩ = some (.slice none 0 0):=bo1.out.cell 12
 have fo1_12 : w1.frozen? ⟨w.heap.size + 2,12,none⟩ = false:=bo1.out.frozen 12
 go_wp2_with fail
 refine (toRowS_any _ _ _ _ _ S (H1.out.ext ((X1).sc2 _)) n_1).mono ?_
 rintro e w2 ⟨B1,d1,rfl,o1,x2⟩
 have K1 : Hid (n1 ≤ d1):=own_cap o1
 replace o1:=hid (OwS.of_own o1)
 have z2 : w.heap.size + 3 ≤ w2.heap.size:=by have h:=x2.size;(try simp at h);omega
 have y2 : w1.heap.size ≤ w2.heap.size:=by have h:=x2.size;(try simp at h);exact h
 have ba2 : Hid (Bx w2 (w.heap.size) 149 (zRt x (.slice A0 n0 c0) (.slice A1 n1 c1) (.slice A2 n2 c2) (.slice A3 n3 c3) (.slice A4 n4 c4) (.slice A5 n5 c5) (.slice A6 n6 c6) (.slice A7 n7 c7) (.slice A8 n8 c8) (.slice A9 n9 c9) (.slice A10 n10 c10) (.slice A11 n11 c11) (.slice A12 n12 c12) (.slice A13 n13 c13))):=Bx.ext ((ba1.out).far2 _) x2
 have br2 : Hid (Bx w2 (w.heap.size + 1) 97 zRz):=Bx.ext ((br1.out).far2 _) x2
 have bo2 : Hid (Bx w2 (w.heap.size + 2) 97 (List.toArray ((.int .i64 x.phase_)::(.int .i64 x.tries_)::(.int .i64 x.spare_)::(.int .i64 x.pc_)::(.int .i64 x.rv_)::(.int .i64 x.newRv_)::(.int .i64 x.at_)::(.int .i64 x.fate_)::(.int .i64 x.stamp_)::(.int .i64 x.began_)::(.int .i64 x.ended_)::(.bool x.doomed_)::(.slice B0 n0 d0)::(.slice none 0 0)::(.slice none 0 0)::(.slice none 0 0)::(.slice none 0 0)::(.slice none 0 0)::(.bool false)::(.int .i64 0)::(.int .i64 0)::(.int .i64 0)::(.int .i64 0)::(.int .i64 0)::(.int .i64 0)::(.int .i64 0)::(.int .i64 0)::(.int .i64 0)::(.slice none 0 0)::(.slice none 0 0)::(.int .i64 0)::(.int .i64 0)::(.int .i64 0)::(.bool false)::(.slice none 0 0)::(.slice none 0 0)::(.slice none 0 0)::(.slice none 0 0)::(.slice none 0 0)::(.slice none 0 0)::[]))):=Bx.ext (((bo1.out).set_ _ _).cast (by simp only [List.setIfInBounds_toArray,List.set_cons_succ,List.set_cons_zero])) x2
 have X2 : Ext w w2:=Ext.tr ((X1).sc2 _) x2
 replace o0:=hid (o0.out.chg (Chg.trans ((Chg.refl (fun g => g = w.heap.size + 2) _).sc rfl _) (x2.chg _)) (fun g hg q => by have h1:=hg.1;have hq3 : g = w.heap.size + 2:=q;omega))
 replace o1 : Hid (OwS w2 (fun g => w1.heap.size ≤ g ∧ g < w2.heap.size) 239 2 B1 n1 d1 (x.reads_.flatMap Row.cells)):=o1.out.mono (fun g _ hg => by have h1:=hg.1;have h2:=hg.2;constructor <;> (try simp at h1) <;> omega)
 clear x2
 have ca2_14 : w2.cell? ⟨w.heap.size,14,none⟩ = some (.slice A2 n2 c2):=ba2.out.cell 14
 have co2_13 : w2.cell? ⟨w.heap.size + 2,13,none⟩ = some (.slice none 0 0):=bo2.out.cell 13
 have fo2_13 : w2.frozen? ⟨w.heap.size + 2,13,none⟩ = false:=bo2.out.frozen 13
 go_wp2_with fail
 refine (toRowS_any _ _ _ _ _ S (H2.out.ext ((X2).sc2 _)) n_2).mono ?_
 rintro e w3 ⟨B2,d2,rfl,o2,x3⟩
 have K2 : Hid (n2 ≤ d2):=own_cap o2
 replace o2:=hid (OwS.of_own o2)
 have z3 : w.heap.size + 3 ≤ w3.heap.size:=by have h:=x3.size;(try simp at h);omega
 have y3 : w2.heap.size ≤ w3.heap.size:=by have h:=x3.size;(try simp at h);exact h
 have ba3 : Hid (Bx w3 (w.heap.size) 149 (zRt x (.slice A0 n0 c0) (.slice A1 n1 c1) (.slice A2 n2 c2) (.slice A3 n3 c3) (.slice A4 n4 c4) (.slice A5 n5 c5) (.slice A6 n6 c6) (.slice A7 n7 c7) (.slice A8 n8 c8) (.slice A9 n9 c9) (.slice A10 n10 c10) (.slice A11 n11 c11) (.slice A12 n12 c12) (.slice A13 n13 c13))):=Bx.ext ((ba2.out).far2 _) x3
 have br3 : Hid (Bx w3 (w.heap.size + 1) 97 zRz):=Bx.ext ((br2.out).far2 _) x3
 have bo3 : Hid (Bx w3 (w.heap.size + 2) 97 (List.toArray ((.int .i64 x.phase_)::(.int .i64 x.tries_)::(.int .i64 x.spare_)::(.int .i64 x.pc_)::(.int .i64 x.rv_)::(.int .i64 x.newRv_)::(.int .i64 x.at_)::(.int .i64 x.fate_)::(.int .i64 x.stamp_)::(.int .i64 x.began_)::(.int .i64 x.ended_)::(.bool x.doomed_)::(.slice B0 n0 d0)::(.slice B1 n1 d1)::(.slice none 0 0)::(.slice none 0 0)::(.slice none 0 0)::(.slice none 0 0)::(.bool false)::(.int .i64 0)::(.int .i64 0)::(.int .i64 0)::(.int .i64 0)::(.int .i64 0)::(.int .i64 0)::(.int .i64 0)::(.int .i64 0)::(.int .i64 0)::(.slice none 0 0)::(.slice none 0 0)::(.int .i64 0)::(.int .i64 0)::(.int .i64 0)::(.bool false)::(.slice none 0 0)::(.slice none 0 0)::(.slice none 0 0)::(.slice none 0 0)::(.slice none 0 0)::(.slice none 0 0)::[]))):=Bx.ext (((bo2.out).set_ _ _).cast (by simp only [List.setIfInBounds_toArray,List.set_cons_succ,List.set_cons_zero])) x3
 have X3 : Ext w w3:=Ext.tr ((X2).sc2 _) x3
 replace o0:=hid (o0.out.chg (Chg.trans ((Chg.refl (fun g => g = w.heap.size + 2) _).sc rfl _) (x3.chg _)) (fun g hg q => by have h1:=hg.1;have hq3 : g = w.heap.size + 2:=q;omega))
 replace o1:=hid (o1.out.chg (Chg.trans ((Chg.refl (fun g => g = w.heap.size + 2) _).sc rfl _) (x3.chg _)) (fun g hg q => by have h1:=hg.1;have hq3 : g = w.heap.size + 2:=q;omega))
 replace o2 : Hid (OwS w3 (fun g => w2.heap.size ≤ g ∧ g < w3.heap.size) 239 2 B2 n2 d2 (x.writes_.flatMap Row.cells)):=o2.out.mono (fun g _ hg => by have h1:=hg.1;have h2:=hg.2;constructor <;> (try simp at h1) <;> omega)
 clear x3
 have ca3_15 : w3.cell? ⟨w.heap.size,15,none⟩ = some (.slice A3 n3 c3):=ba3.out.cell 15
 have co3_14 : w3.cell? ⟨w.heap.size + 2,14,none⟩ = some (.slice none 0 0):=bo3.out.cell 14
 have fo3_14 : w3.frozen? ⟨w.heap.size + 2,14,none⟩ = false:=bo3.out.frozen 14
 go_wp2_with fail
 refine (toMarkS_any _ _ _ x.marks_ _ S (SlR.ext Mark.R_good H3.out ((X3).sc2 _)) n_3 W_3).mono ?_
 rintro e w4 ⟨B3,d3,rfl,o3,x4⟩
 replace o3:=hid o3
 have z4 : w.heap.size + 3 ≤ w4.heap.size:=by have h:=x4.size;(try simp at h);omega
 have y4 : w3.heap.size ≤ w4.heap.size:=by have h:=x4.size;(try simp at h);exact h
 have ba4 : Hid (Bx w4 (w.heap.size) 149 (zRt x (.slice A0 n0 c0) (.slice A1 n1 c1) (.slice A2 n2 c2) (.slice A3 n3 c3) (.slice A4 n4 c4) (.slice A5 n5 c5) (.slice A6 n6 c6) (.slice A7 n7 c7) (.slice A8 n8 c8) (.slice A9 n9 c9) (.slice A10 n10 c10) (.slice A11 n11 c11) (.slice A12 n12 c12) (.slice A13 n13 c13))):=Bx.ext ((ba3.out).far2 _) x4
 have br4 : Hid (Bx w4 (w.heap.size + 1) 97 zRz):=Bx.ext ((br3.out).far2 _) x4
 have bo4 : Hid (Bx w4 (w.heap.size + 2) 97 (List.toArray ((.int .i64 x.phase_)::(.int .i64 x.tries_)::(.int .i64 x.spare_)::(.int .i64 x.pc_)::(.int .i64 x.rv_)::(.int .i64 x.newRv_)::(.int .i64 x.at_)::(.int .i64 x.fate_)::(.int .i64 x.stamp_)::(.int .i64 x.began_)::(.int .i64 x.ended_)::(.bool x.doomed_)::(.slice B0 n0 d0)::(.slice B1 n1 d1)::(.slice B2 n2 d2)::(.slice none 0 0)::(.slice none 0 0)::(.slice none 0 0)::(.bool false)::(.int .i64 0)::(.int .i64 0)::(.int .i64 0)::(.int .i64 0)::(.int .i64 0)::(.int .i64 0)::(.int .i64 0)::(.int .i64 0)::(.int .i64 0)::(.slice none 0 0)::(.slice none 0 0)::(.int .i64 0)::(.int .i64 0)::(.int .i64 0)::(.bool false)::(.slice none 0 0)::(.slice none 0 0)::(.slice none 0 0)::(.slice none 0 0)::(.slice none 0 0)::(.slice none 0 0)::[]))):=Bx.ext (((bo3.out).set_ _ _).cast (by simp only [List.setIfInBounds_toArray,List.set_cons_succ,List.set_cons_zero])) x4
 have X4 : Ext w w4:=Ext.tr ((X3).sc2 _) x4
 replace o0:=hid (o0.out.chg (Chg.trans ((Chg.refl (fun g => g = w.heap.size + 2) _).sc rfl _) (x4.chg _)) (fun g hg q => by have h1:=hg.1;have hq3 : g = w.heap.size + 2:=q;omega))
 replace o1:=hid (o1.out.chg (Chg.trans ((Chg.refl (fun g => g = w.heap.size + 2) _).sc rfl _) (x4.chg _)) (fun g hg q => by have h1:=hg.1;have hq3 : g = w.heap.size + 2:=q;omega))
 replace o2:=hid (o2.out.chg (Chg.trans ((Chg.refl (fun g => g = w.heap.size + 2) _).sc rfl _) (x4.chg _)) (fun g hg q => by have h1:=hg.1;have hq3 : g = w.heap.size + 2:=q;omega))
 replace o3 : Hid (SlW Mark.W 241 5 w4 (fun g => w3.heap.size ≤ g ∧ g < w4.heap.size) B3 n3 d3 x.marks_):=o3.out.mono Mark.W_good (fun g hg => by have h1:=hg.1;have h2:=hg.2;constructor <;> (try simp at h1) <;> omega)
 clear x4
 have ca4_16 : w4.cell? ⟨w.heap.size,16,none⟩ = some (.slice A4 n4 c4):=ba4.out.cell 16
 have co4_15 : w4.cell? ⟨w.heap.size + 2,15,none⟩ = some (.slice none 0 0):=bo4.out.cell 15
 have fo4_15 : w4.frozen? ⟨w.heap.size + 2,15,none⟩ = false:=bo4.out.frozen 15
 go_wp2_with fail
 refine (toUndoS_any _ _ _ _ _ S (H4.out.ext ((X4).sc2 _)) n_4).mono ?_
 rintro e w5 ⟨B4,d4,rfl,o4,x5⟩
 have K4 : Hid (n4 ≤ d4):=own_cap o4
 replace o4:=hid (OwS.of_own o4)
 have z5 : w.heap.size + 3 ≤ w5.heap.size:=by have h:=x5.size;(try simp at h);omega
 have y5 : w4.heap.size ≤ w5.heap.size:=by have h:=x5.size;(try simp at h);exact h
 have ba5 : Hid (Bx w5 (w.heap.size) 149 (zRt x (.slice A0 n0 c0) (.slice A1 n1 c1) (.slice A2 n2 c2) (.slice A3 n3 c3) (.slice A4 n4 c4) (.slice A5 n5 c5) (.slice A6 n6 c6) (.slice A7 n7 c7) (.slice A8 n8 c8) (.slice A9 n9 c9) (.slice A10 n10 c10) (.slice A11 n11 c11) (.slice A12 n12 c12) (.slice A13 n13 c13))):=Bx.ext ((ba4.out).far2 _) x5
 have br5 : Hid (Bx w5 (w.heap.size + 1) 97 zRz):=Bx.ext ((br4.out).far2 _) x5
 have bo5 : Hid (Bx w5 (w.heap.size + 2) 97 (List.toArray ((.int .i64 x.phase_)::(.int .i64 x.tries_)::(.int .i64 x.spare_)::(.int .i64 x.pc_)::(.int .i64 x.rv_)::(.int .i64 x.newRv_)::(.int .i64 x.at_)::(.int .i64 x.fate_)::(.int .i64 x.stamp_)::(.int .i64 x.began_)::(.int .i64 x.ended_)::(.bool x.doomed_)::(.slice B0 n0 d0)::(.slice B1 n1 d1)::(.slice B2 n2 d2)::(.slice B3 n3 d3)::(.slice none 0 0)::(.slice none 0 0)::(.bool false)::(.int .i64 0)::(.int .i64 0)::(.int .i64 0)::(.int .i64 0)::(.int .i64 0)::(.int .i64 0)::(.int .i64 0)::(.int .i64 0)::(.int .i64 0)::(.slice none 0 0)::(.slice none 0 0)::(.int .i64 0)::(.int .i64 0)::(.int .i64 0)::(.bool false)::(.slice none 0 0)::(.slice none 0 0)::(.slice none 0 0)::(.slice none 0 0)::(.slice none 0 0)::(.slice none 0 0)::[]))):=Bx.ext (((bo4.out).set_ _ _).cast (by simp only [List.setIfInBounds_toArray,List.set_cons_succ,List.set_cons_zero])) x5
 have X5 : Ext w w5:=Ext.tr ((X4).sc2 _) x5
 replace o0:=hid (o0.out.chg (Chg.trans ((Chg.refl (fun g => g = w.heap.size + 2) _).sc rfl _) (x5.chg _)) (fun g hg q => by have h1:=hg.1;have hq3 : g = w.heap.size + 2:=q;omega))
 replace o1:=hid (o1.out.chg (Chg.trans ((Chg.refl (fun g => g = w.heap.size + 2) _).sc rfl _) (x5.chg _)) (fun g hg q => by have h1:=hg.1;have hq3 : g = w.heap.size + 2:=q;omega))
 replace o2:=hid (o2.out.chg (Chg.trans ((Chg.refl (fun g => g = w.heap.size + 2) _).sc rfl _) (x5.chg _)) (fun g hg q => by have h1:=hg.1;have hq3 : g = w.heap.size + 2:=q;omega))
 replace o3:=hid (o3.out.chg Mark.W_good (Chg.trans ((Chg.refl (fun g => g = w.heap.size + 2) _).sc rfl _) (x5.chg _)) (fun g hg q => by have h1:=hg.1;have hq3 : g = w.heap.size + 2:=q;omega))
 replace o4 : Hid (OwS w5 (fun g => w4.heap.size ≤ g ∧ g < w5.heap.size) 243 3 B4 n4 d4 (x.undos_.flatMap Undo.cells)):=o4.out.mono (fun g _ hg => by have h1:=hg.1;have h2:=hg.2;constructor <;> (try simp at h1) <;> omega)
 clear x5
 have ca5_17 : w5.cell? ⟨w.heap.size,17,none⟩ = some (.slice A5 n5 c5):=ba5.out.cell 17
 have co5_16 : w5.cell? ⟨w.heap.size + 2,16,none⟩ = some (.slice none 0 0):=bo5.out.cell 16
 have fo5_16 : w5.frozen? ⟨w.heap.size + 2,16,none⟩ = false:=bo5.out.frozen 16
 go_wp2_with fail
 refine (toIntS_any _ _ _ _ _ S (H5.out.ext ((X5).sc2 _)) n_5).mono ?_
 rintro e w6 ⟨B5,d5,rfl,o5,x6⟩
 have K5 : Hid (n5 ≤ d5):=own_cap o5
 replace o5:=hid (OwS.of_own o5)
 have z6 : w.heap.size + 3 ≤ w6.heap.size:=by have h:=x6.size;(try simp at h);omega
 have y6 : w5.heap.size ≤ w6.heap.size:=by have h:=x6.size;(try simp at h);exact h
 have ba6 : Hid (Bx w6 (w.heap.size) 149 (zRt x (.slice A0 n0 c0) (.slice A1 n1 c1) (.slice A2 n2 c2) (.slice A3 n3 c3) (.slice A4 n4 c4) (.slice A5 n5 c5) (.slice A6 n6 c6) (.slice A7 n7 c7) (.slice A8 n8 c8) (.slice A9 n9 c9) (.slice A10 n10 c10) (.slice A11 n11 c11) (.slice A12 n12 c12) (.slice A13 n13 c13))):=Bx.ext ((ba5.out).far2 _) x6
 have br6 : Hid (Bx w6 (w.heap.size + 1) 97 zRz):=Bx.ext ((br5.out).far2 _) x6
 have bo6 : Hid (Bx w6 (w.heap.size + 2) 97 (List.toArray ((.int .i64 x.phase_)::(.int .i64 x.tries_)::(.int .i64 x.spare_)::(.int .i64 x.pc_)::(.int .i64 x.rv_)::(.int .i64 x.newRv_)::(.int .i64 x.at_)::(.int .i64 x.fate_)::(.int .i64 x.stamp_)::(.int .i64 x.began_)::(.int .i64 x.ended_)::(.bool x.doomed_)::(.slice B0 n0 d0)::(.slice B1 n1 d1)::(.slice B2 n2 d2)::(.slice B3 n3 d3)::(.slice B4 n4 d4)::(.slice none 0 0)::(.bool false)::(.int .i64 0)::(.int .i64 0)::(.int .i64 0)::(.int .i64 0)::(.int .i64 0)::(.int .i64 0)::(.int .i64 0)::(.int .i64 0)::(.int .i64 0)::(.slice none 0 0)::(.slice none 0 0)::(.int .i64 0)::(.int .i64 0)::(.int .i64 0)::(.bool false)::(.slice none 0 0)::(.slice none 0 0)::(.slice none 0 0)::(.slice none 0 0)::(.slice none 0 0)::(.slice none 0 0)::[]))):=Bx.ext (((bo5.out).set_ _ _).cast (by simp only [List.setIfInBounds_toArray,List.set_cons_succ,List.set_cons_zero])) x6
 have X6 : Ext w w6:=Ext.tr ((X5).sc2 _) x6
 replace o0:=hid (o0.out.chg (Chg.trans ((Chg.refl (fun g => g = w.heap.size + 2) _).sc rfl _) (x6.chg _)) (fun g hg q => by have h1:=hg.1;have hq3 : g = w.heap.size + 2:=q;omega))
 replace o1:=hid (o1.out.chg (Chg.trans ((Chg.refl (fun g => g = w.heap.size + 2) _).sc rfl _) (x6.chg _)) (fun g hg q => by have h1:=hg.1;have hq3 : g = w.heap.size + 2:=q;omega))
 replace o2:=hid (o2.out.chg (Chg.trans ((Chg.refl (fun g => g = w.heap.size + 2) _).sc rfl _) (x6.chg _)) (fun g hg q => by have h1:=hg.1;have hq3 : g = w.heap.size + 2:=q;omega))
 replace o3:=hid (o3.out.chg Mark.W_good (Chg.trans ((Chg.refl (fun g => g = w.heap.size + 2) _).sc rfl _) (x6.chg _)) (fun g hg q => by have h1:=hg.1;have hq3 : g = w.heap.size + 2:=q;omega))
 replace o4:=hid (o4.out.chg (Chg.trans ((Chg.refl (fun g => g = w.heap.size + 2) _).sc rfl _) (x6.chg _)) (fun g hg q => by have h1:=hg.1;have hq3 : g = w.heap.size + 2:=q;omega))
 replace o5 : Hid (OwS w6 (fun g => w5.heap.size ≤ g ∧ g < w6.heap.size) 3 1 B5 n5 d5 (ints x.order_)):=o5.out.mono (fun g _ hg => by have h1:=hg.1;have h2:=hg.2;constructor <;> (try simp at h1) <;> omega)
 clear x6
 have ca6_18 : w6.cell? ⟨w.heap.size,18,none⟩ = some (.bool x.busy_):=ba6.out.cell 18
 have ca6_19 : w6.cell? ⟨w.heap.size,19,none⟩ = some (.int .i64 x.probe_.cell_):=ba6.out.cell 19
 have ca6_20 : w6.cell? ⟨w.heap.size,20,none⟩ = some (.int .i64 x.probe_.phase_):=ba6.out.cell 20
 have ca6_21 : w6.cell? ⟨w.heap.size,21,none⟩ = some (.int .i64 x.probe_.ver_):=ba6.out.cell 21
 have ca6_22 : w6.cell? ⟨w.heap.size,22,none⟩ = some (.int .i64 x.probe_.val_):=ba6.out.cell 22
 have co6_17 : w6.cell? ⟨w.heap.size + 2,17,none⟩ = some (.slice none 0 0):=bo6.out.cell 17
 have co6_18 : w6.cell? ⟨w.heap.size + 2,18,none⟩ = some (.bool false):=bo6.out.cell 18
 have fo6_17 : w6.frozen? ⟨w.heap.size + 2,17,none⟩ = false:=bo6.out.frozen 17
 have fo6_18 : w6.frozen? ⟨w.heap.size + 2,18,none⟩ = false:=bo6.out.frozen 18
 go_wp2_with fail
 refine (toProbe_any _ _ _ _ _).mono ?_
 rintro e w7 ⟨rfl,x7⟩
 have z7 : w.heap.size + 3 ≤ w7.heap.size:=by have h:=x7.size;(try simp at h);omega
 have y7 : w6.heap.size ≤ w7.heap.size:=by have h:=x7.size;(try simp at h);exact h
 have ba7 : Hid (Bx w7 (w.heap.size) 149 (zRt x (.slice A0 n0 c0) (.slice A1 n1 c1) (.slice A2 n2 c2) (.slice A3 n3 c3) (.slice A4 n4 c4) (.slice A5 n5 c5) (.slice A6 n6 c6) (.slice A7 n7 c7) (.slice A8 n8 c8) (.slice A9 n9 c9) (.slice A10 n10 c10) (.slice A11 n11 c11) (.slice A12 n12 c12) (.slice A13 n13 c13))):=Bx.ext (((ba6.out).far2 _).far2 _) x7
 have br7 : Hid (Bx w7 (w.heap.size + 1) 97 zRz):=Bx.ext (((br6.out).far2 _).far2 _) x7
 have bo7 : Hid (Bx w7 (w.heap.size + 2) 97 (List.toArray ((.int .i64 x.phase_)::(.int .i64 x.tries_)::(.int .i64 x.spare_)::(.int .i64 x.pc_)::(.int .i64 x.rv_)::(.int .i64 x.newRv_)::(.int .i64 x.at_)::(.int .i64 x.fate_)::(.int .i64 x.stamp_)::(.int .i64 x.began_)::(.int .i64 x.ended_)::(.bool x.doomed_)::(.slice B0 n0 d0)::(.slice B1 n1 d1)::(.slice B2 n2 d2)::(.slice B3 n3 d3)::(.slice B4 n4 d4)::(.slice B5 n5 d5)::(.bool x.busy_)::(.int .i64 0)::(.int .i64 0)::(.int .i64 0)::(.int .i64 0)::(.int .i64 0)::(.int .i64 0)::(.int .i64 0)::(.int .i64 0)::(.int .i64 0)::(.slice none 0 0)::(.slice none 0 0)::(.int .i64 0)::(.int .i64 0)::(.int .i64 0)::(.bool false)::(.slice none 0 0)::(.slice none 0 0)::(.slice none 0 0)::(.slice none 0 0)::(.slice none 0 0)::(.slice none 0 0)::[]))):=Bx.ext ((((bo6.out).set_ _ _).set_ _ _).cast (by simp only [List.setIfInBounds_toArray,List.set_cons_succ,List.set_cons_zero])) x7
 have X7 : Ext w w7:=Ext.tr (((X6).sc2 _).sc2 _) x7
 replace o0:=hid (o0.out.chg (Chg.trans (((Chg.refl (fun g => g = w.heap.size + 2) _).sc rfl _).sc rfl _) (x7.chg _)) (fun g hg q => by have h1:=hg.1;have hq3 : g = w.heap.size + 2:=q;omega))
 replace o1:=hid (o1.out.chg (Chg.trans (((Chg.refl (fun g => g = w.heap.size + 2) _).sc rfl _).sc rfl _) (x7.chg _)) (fun g hg q => by have h1:=hg.1;have hq3 : g = w.heap.size + 2:=q;omega))
 replace o2:=hid (o2.out.chg (Chg.trans (((Chg.refl (fun g => g = w.heap.size + 2) _).sc rfl _).sc rfl _) (x7.chg _)) (fun g hg q => by have h1:=hg.1;have hq3 : g = w.heap.size + 2:=q;omega))
 replace o3:=hid (o3.out.chg Mark.W_good (Chg.trans (((Chg.refl (fun g => g = w.heap.size + 2) _).sc rfl _).sc rfl _) (x7.chg _)) (fun g hg q => by have h1:=hg.1;have hq3 : g = w.heap.size + 2:=q;omega))
 replace o4:=hid (o4.out.chg (Chg.trans (((Chg.refl (fun g => g = w.heap.size + 2) _).sc rfl _).sc rfl _) (x7.chg _)) (fun g hg q => by have h1:=hg.1;have hq3 : g = w.heap.size + 2:=q;omega))
 replace o5:=hid (o5.out.chg (Chg.trans (((Chg.refl (fun g => g = w.heap.size + 2) _).sc rfl _).sc rfl _) (x7.chg _)) (fun g hg q => by have h1:=hg.1;have hq3 : g = w.heap.size + 2:=q;omega))
 clear x7
 have ca7_23 : w7.cell? ⟨w.heap.size,23,none⟩ = some (.int .i64 x.commit_.who_):=ba7.out.cell 23
 have ca7_24 : w7.cell? ⟨w.heap.size,24,none⟩ = some (.int .i64 x.commit_.rv_):=ba7.out.cell 24
 have ca7_25 : w7.cell? ⟨w.heap.size,25,none⟩ = some (.int .i64 x.commit_.phase_):=ba7.out.cell 25
 have ca7_26 : w7.cell? ⟨w.heap.size,26,none⟩ = some (.int .i64 x.commit_.at_):=ba7.out.cell 26
 have ca7_27 : w7.cell? ⟨w.heap.size,27,none⟩ = some (.int .i64 x.commit_.wv_):=ba7.out.cell 27
 have ca7_28 : w7.cell? ⟨w.heap.size,28,none⟩ = some (.slice A6 n6 c6):=ba7.out.cell 28
 have ca7_29 : w7.cell? ⟨w.heap.size,29,none⟩ = some (.slice A7 n7 c7):=ba7.out.cell 29
 have co7_19 : w7.cell? ⟨w.heap.size + 2,19,none⟩ = some (.int .i64 0):=bo7.out.cell 19
 have co7_20 : w7.cell? ⟨w.heap.size + 2,20,none⟩ = some (.int .i64 0):=bo7.out.cell 20
 have co7_21 : w7.cell? ⟨w.heap.size + 2,21,none⟩ = some (.int .i64 0):=bo7.out.cell 21
 have co7_22 : w7.cell? ⟨w.heap.size + 2,22,none⟩ = some (.int .i64 0):=bo7.out.cell 22
 have fo7_19 : w7.frozen? ⟨w.heap.size + 2,19,none⟩ = false:=bo7.out.frozen 19
 have fo7_20 : w7.frozen? ⟨w.heap.size + 2,20,none⟩ = false:=bo7.out.frozen 20
 have fo7_21 : w7.frozen? ⟨w.heap.size + 2,21,none⟩ = false:=bo7.out.frozen 21
 have fo7_22 : w7.frozen? ⟨w.heap.size + 2,22,none⟩ = false:=bo7.out.frozen 22
 go_wp2_with fail
 refine (toCommit_any x.commit_ _ _ S (Commit.R_good.ext H6.out (((((X7).sc2 _).sc2 _).sc2 _).sc2 _)) W_6).mono ?_
 rintro e w8 ⟨cv,rfl,o6,x8⟩
 replace o6:=hid o6
 obtain ⟨B6,p6,d6,B7,p7,d7,rfl⟩:=Commit.W_cells o6.out
 have z8 : w.heap.size + 3 ≤ w8.heap.size:=by have h:=x8.size;(try simp at h);omega
 have y8 : w7.heap.size ≤ w8.heap.size:=by have h:=x8.size;(try simp at h);exact h
 have ba8 : Hid (Bx w8 (w.heap.size) 149 (zRt x (.slice A0 n0 c0) (.slice A1 n1 c1) (.slice A2 n2 c2) (.slice A3 n3 c3) (.slice A4 n4 c4) (.slice A5 n5 c5) (.slice A6 n6 c6) (.slice A7 n7 c7) (.slice A8 n8 c8) (.slice A9 n9 c9) (.slice A10 n10 c10) (.slice A11 n11 c11) (.slice A12 n12 c12) (.slice A13 n13 c13))):=Bx.ext (((((ba7.out).far2 _).far2 _).far2 _).far2 _) x8
 have br8 : Hid (Bx w8 (w.heap.size + 1) 97 zRz):=Bx.ext (((((br7.out).far2 _).far2 _).far2 _).far2 _) x8
 have bo8 : Hid (Bx w8 (w.heap.size + 2) 97 (List.toArray ((.int .i64 x.phase_)::(.int .i64 x.tries_)::(.int .i64 x.spare_)::(.int .i64 x.pc_)::(.int .i64 x.rv_)::(.int .i64 x.newRv_)::(.int .i64 x.at_)::(.int .i64 x.fate_)::(.int .i64 x.stamp_)::(.int .i64 x.began_)::(.int .i64 x.ended_)::(.bool x.doomed_)::(.slice B0 n0 d0)::(.slice B1 n1 d1)::(.slice B2 n2 d2)::(.slice B3 n3 d3)::(.slice B4 n4 d4)::(.slice B5 n5 d5)::(.bool x.busy_)::(.int .i64 x.probe_.cell_)::(.int .i64 x.probe_.phase_)::(.int .i64 x.probe_.ver_)::(.int .i64 x.probe_.val_)::(.int .i64 0)::(.int .i64 0)::(.int .i64 0)::(.int .i64 0)::(.int .i64 0)::(.slice none 0 0)::(.slice none 0 0)::(.int .i64 0)::(.int .i64 0)::(.int .i64 0)::(.bool false)::(.slice none 0 0)::(.slice none 0 0)::(.slice none 0 0)::(.slice none 0 0)::(.slice none 0 0)::(.slice none 0 0)::[]))):=Bx.ext ((((((bo7.out).set_ _ _).set_ _ _).set_ _ _).set_ _ _).cast (by simp only [List.setIfInBounds_toArray,List.set_cons_succ,List.set_cons_zero])) x8
 have X8 : Ext w w8:=Ext.tr (((((X7).sc2 _).sc2 _).sc2 _).sc2 _) x8
 replace o0:=hid (o0.out.chg (Chg.trans (((((Chg.refl (fun g => g = w.heap.size + 2) _).sc rfl _).sc rfl _).sc rfl _).sc rfl _) (x8.chg _)) (fun g hg q => by have h1:=hg.1;have hq3 : g = w.heap.size + 2:=q;omega))
 replace o1:=hid (o1.out.chg (Chg.trans (((((Chg.refl (fun g => g = w.heap.size + 2) _).sc rfl _).sc rfl _).sc rfl _).sc rfl _) (x8.chg _)) (fun g hg q => by have h1:=hg.1;have hq3 : g = w.heap.size + 2:=q;omega))
 replace o2:=hid (o2.out.chg (Chg.trans (((((Chg.refl (fun g => g = w.heap.size + 2) _).sc rfl _).sc rfl _).sc rfl _).sc rfl _) (x8.chg _)) (fun g hg q => by have h1:=hg.1;have hq3 : g = w.heap.size + 2:=q;omega))
 replace o3:=hid (o3.out.chg Mark.W_good (Chg.trans (((((Chg.refl (fun g => g = w.heap.size + 2) _).sc rfl _).sc rfl _).sc rfl _).sc rfl _) (x8.chg _)) (fun g hg q => by have h1:=hg.1;have hq3 : g = w.heap.size + 2:=q;omega))
 replace o4:=hid (o4.out.chg (Chg.trans (((((Chg.refl (fun g => g = w.heap.size + 2) _).sc rfl _).sc rfl _).sc rfl _).sc rfl _) (x8.chg _)) (fun g hg q => by have h1:=hg.1;have hq3 : g = w.heap.size + 2:=q;omega))
 replace o5:=hid (o5.out.chg (Chg.trans (((((Chg.refl (fun g => g = w.heap.size + 2) _).sc rfl _).sc rfl _).sc rfl _).sc rfl _) (x8.chg _)) (fun g hg q => by have h1:=hg.1;have hq3 : g = w.heap.size + 2:=q;omega))
 replace o6 : Hid (Commit.W w8 (fun g => w7.heap.size ≤ g ∧ g < w8.heap.size) _ x.commit_):=Commit.W_good.mono o6.out (fun g hg => by have h1:=hg.1;have h2:=hg.2;constructor <;> (try simp at h1) <;> omega)
 clear x8
 have ca8_30 : w8.cell? ⟨w.heap.size,30,none⟩ = some (.int .i64 x.fam_.rv_):=ba8.out.cell 30
 have ca8_31 : w8.cell? ⟨w.heap.size,31,none⟩ = some (.int .i64 x.fam_.clock_):=ba8.out.cell 31
 have ca8_32 : w8.cell? ⟨w.heap.size,32,none⟩ = some (.int .i64 x.fam_.owner_):=ba8.out.cell 32
 have ca8_33 : w8.cell? ⟨w.heap.size,33,none⟩ = some (.bool x.fam_.lost_):=ba8.out.cell 33
 have ca8_34 : w8.cell? ⟨w.heap.size,34,none⟩ = some (.slice A8 n8 c8):=ba8.out.cell 34
 have ca8_35 : w8.cell? ⟨w.heap.size,35,none⟩ = some (.slice A9 n9 c9):=ba8.out.cell 35
 have ca8_36 : w8.cell? ⟨w.heap.size,36,none⟩ = some (.slice A10 n10 c10):=ba8.out.cell 36
 have ca8_37 : w8.cell? ⟨w.heap.size,37,none⟩ = some (.slice A11 n11 c11):=ba8.out.cell 37
 have ca8_38 : w8.cell? ⟨w.heap.size,38,none⟩ = some (.slice A12 n12 c12):=ba8.out.cell 38
 have ca8_39 : w8.cell? ⟨w.heap.size,39,none⟩ = some (.slice A13 n13 c13):=ba8.out.cell 39
 have co8_23 : w8.cell? ⟨w.heap.size + 2,23,none⟩ = some (.int .i64 0):=bo8.out.cell 23
 have co8_24 : w8.cell? ⟨w.heap.size + 2,24,none⟩ = some (.int .i64 0):=bo8.out.cell 24
 have co8_25 : w8.cell? ⟨w.heap.size + 2,25,none⟩ = some (.int .i64 0):=bo8.out.cell 25
 have co8_26 : w8.cell? ⟨w.heap.size + 2,26,none⟩ = some (.int .i64 0):=bo8.out.cell 26
 have co8_27 : w8.cell? ⟨w.heap.size + 2,27,none⟩ = some (.int .i64 0):=bo8.out.cell 27
 have co8_28 : w8.cell? ⟨w.heap.size + 2,28,none⟩ = some (.slice none 0 0):=bo8.out.cell 28
 have co8_29 : w8.cell? ⟨w.heap.size + 2,29,none⟩ = some (.slice none 0 0):=bo8.out.cell 29
 have fo8_23 : w8.frozen? ⟨w.heap.size + 2,23,none⟩ = false:=bo8.out.frozen 23
 have fo8_24 : w8.frozen? ⟨w.heap.size + 2,24,none⟩ = false:=bo8.out.frozen 24
 have fo8_25 : w8.frozen? ⟨w.heap.size + 2,25,none⟩ = false:=bo8.out.frozen 25
 have fo8_26 : w8.frozen? ⟨w.heap.size + 2,26,none⟩ = false:=bo8.out.frozen 26
 have fo8_27 : w8.frozen? ⟨w.heap.size + 2,27,none⟩ = false:=bo8.out.frozen 27
 have fo8_28 : w8.frozen? ⟨w.heap.size + 2,28,none⟩ = false:=bo8.out.frozen 28
 have fo8_29 : w8.frozen? ⟨w.heap.size + 2,29,none⟩ = false:=bo8.out.frozen 29
 go_wp2_with fail
 refine (toFamily_any x.fam_ _ _ S (Family.R_good.ext H7.out ((((((((X8).sc2 _).sc2 _).sc2 _).sc2 _).sc2 _).sc2 _).sc2 _)) W_7).mono ?_
 rintro e w9 ⟨cv,rfl,o7,x9⟩
 replace o7:=hid o7
 obtain ⟨B8,p8,d8,B9,p9,d9,B10,p10,d10,B11,p11,d11,B12,p12,d12,B13,p13,d13,rfl⟩:=Family.W_cells o7.out
 have z9 : w.heap.size + 3 ≤ w9.heap.size:=by have h:=x9.size;(try simp at h);omega
 have y9 : w8.heap.size ≤ w9.heap.size:=by have h:=x9.size;(try simp at h);exact h
 have ba9 : Hid (Bx w9 (w.heap.size) 149 (zRt x (.slice A0 n0 c0) (.slice A1 n1 c1) (.slice A2 n2 c2) (.slice A3 n3 c3) (.slice A4 n4 c4) (.slice A5 n5 c5) (.slice A6 n6 c6) (.slice A7 n7 c7) (.slice A8 n8 c8) (.slice A9 n9 c9) (.slice A10 n10 c10) (.slice A11 n11 c11) (.slice A12 n12 c12) (.slice A13 n13 c13))):=Bx.ext ((((((((ba8.out).far2 _).far2 _).far2 _).far2 _).far2 _).far2 _).far2 _) x9
 have br9 : Hid (Bx w9 (w.heap.size + 1) 97 zRz):=Bx.ext ((((((((br8.out).far2 _).far2 _).far2 _).far2 _).far2 _).far2 _).far2 _) x9
 have bo9 : Hid (Bx w9 (w.heap.size + 2) 97 (List.toArray ((.int .i64 x.phase_)::(.int .i64 x.tries_)::(.int .i64 x.spare_)::(.int .i64 x.pc_)::(.int .i64 x.rv_)::(.int .i64 x.newRv_)::(.int .i64 x.at_)::(.int .i64 x.fate_)::(.int .i64 x.stamp_)::(.int .i64 x.began_)::(.int .i64 x.ended_)::(.bool x.doomed_)::(.slice B0 n0 d0)::(.slice B1 n1 d1)::(.slice B2 n2 d2)::(.slice B3 n3 d3)::(.slice B4 n4 d4)::(.slice B5 n5 d5)::(.bool x.busy_)::(.int .i64 x.probe_.cell_)::(.int .i64 x.probe_.phase_)::(.int .i64 x.probe_.ver_)::(.int .i64 x.probe_.val_)::(.int .i64 x.commit_.who_)::(.int .i64 x.commit_.rv_)::(.int .i64 x.commit_.phase_)::(.int .i64 x.commit_.at_)::(.int .i64 x.commit_.wv_)::(.slice B6 p6 d6)::(.slice B7 p7 d7)::(.int .i64 0)::(.int .i64 0)::(.int .i64 0)::(.bool false)::(.slice none 0 0)::(.slice none 0 0)::(.slice none 0 0)::(.slice none 0 0)::(.slice none 0 0)::(.slice none 0 0)::[]))):=Bx.ext (((((((((bo8.out).set_ _ _).set_ _ _).set_ _ _).set_ _ _).set_ _ _).set_ _ _).set_ _ _).cast (by simp only [List.setIfInBounds_toArray,List.set_cons_succ,List.set_cons_zero])) x9
 have X9 : Ext w w9:=Ext.tr ((((((((X8).sc2 _).sc2 _).sc2 _).sc2 _).sc2 _).sc2 _).sc2 _) x9
 replace o0:=hid (o0.out.chg (Chg.trans ((((((((Chg.refl (fun g => g = w.heap.size + 2) _).sc rfl _).sc rfl _).sc rfl _).sc rfl _).sc rfl _).sc rfl _).sc rfl _) (x9.chg _)) (fun g hg q => by have h1:=hg.1;have hq3 : g = w.heap.size + 2:=q;omega))
 replace o1:=hid (o1.out.chg (Chg.trans ((((((((Chg.refl (fun g => g = w.heap.size + 2) _).sc rfl _).sc rfl _).sc rfl _).sc rfl _).sc rfl _).sc rfl _).sc rfl _) (x9.chg _)) (fun g hg q => by have h1:=hg.1;have hq3 : g = w.heap.size + 2:=q;omega))
 replace o2:=hid (o2.out.chg (Chg.trans ((((((((Chg.refl (fun g => g = w.heap.size + 2) _).sc rfl _).sc rfl _).sc rfl _).sc rfl _).sc rfl _).sc rfl _).sc rfl _) (x9.chg _)) (fun g hg q => by have h1:=hg.1;have hq3 : g = w.heap.size + 2:=q;omega))
 replace o3:=hid (o3.out.chg Mark.W_good (Chg.trans ((((((((Chg.refl (fun g => g = w.heap.size + 2) _).sc rfl _).sc rfl _).sc rfl _).sc rfl _).sc rfl _).sc rfl _).sc rfl _) (x9.chg _)) (fun g hg q => by have h1:=hg.1;have hq3 : g = w.heap.size + 2:=q;omega))
 replace o4:=hid (o4.out.chg (Chg.trans ((((((((Chg.refl (fun g => g = w.heap.size + 2) _).sc rfl _).sc rfl _).sc rfl _).sc rfl _).sc rfl _).sc rfl _).sc rfl _) (x9.chg _)) (fun g hg q => by have h1:=hg.1;have hq3 : g = w.heap.size + 2:=q;omega))
 replace o5:=hid (o5.out.chg (Chg.trans ((((((((Chg.refl (fun g => g = w.heap.size + 2) _).sc rfl _).sc rfl _).sc rfl _).sc rfl _).sc rfl _).sc rfl _).sc rfl _) (x9.chg _)) (fun g hg q => by have h1:=hg.1;have hq3 : g = w.heap.size + 2:=q;omega))
 replace o6:=hid (Commit.W_good.chg o6.out (Chg.trans ((((((((Chg.refl (fun g => g = w.heap.size + 2) _).sc rfl _).sc rfl _).sc rfl _).sc rfl _).sc rfl _).sc rfl _).sc rfl _) (x9.chg _)) (fun g hg q => by have h1:=hg.1;have hq3 : g = w.heap.size + 2:=q;omega))
 replace o7 : Hid (Family.W w9 (fun g => w8.heap.size ≤ g ∧ g < w9.heap.size) _ x.fam_):=Family.W_good.mono o7.out (fun g hg => by have h1:=hg.1;have h2:=hg.2;constructor <;> (try simp at h1) <;> omega)
 clear x9
 have co9_30 : w9.cell? ⟨w.heap.size + 2,30,none⟩ = some (.int .i64 0):=bo9.out.cell 30
 have co9_31 : w9.cell? ⟨w.heap.size + 2,31,none⟩ = some (.int .i64 0):=bo9.out.cell 31
 have co9_32 : w9.cell? ⟨w.heap.size + 2,32,none⟩ = some (.int .i64 0):=bo9.out.cell 32
 have co9_33 : w9.cell? ⟨w.heap.size + 2,33,none⟩ = some (.bool false):=bo9.out.cell 33
 have co9_34 : w9.cell? ⟨w.heap.size + 2,34,none⟩ = some (.slice none 0 0):=bo9.out.cell 34
 have co9_35 : w9.cell? ⟨w.heap.size + 2,35,none⟩ = some (.slice none 0 0):=bo9.out.cell 35
 have co9_36 : w9.cell? ⟨w.heap.size + 2,36,none⟩ = some (.slice none 0 0):=bo9.out.cell 36
 have co9_37 : w9.cell? ⟨w.heap.size + 2,37,none⟩ = some (.slice none 0 0):=bo9.out.cell 37
 have co9_38 : w9.cell? ⟨w.heap.size + 2,38,none⟩ = some (.slice none 0 0):=bo9.out.cell 38
 have co9_39 : w9.cell? ⟨w.heap.size + 2,39,none⟩ = some (.slice none 0 0):=bo9.out.cell 39
 have fo9_30 : w9.frozen? ⟨w.heap.size + 2,30,none⟩ = false:=bo9.out.frozen 30
 have fo9_31 : w9.frozen? ⟨w.heap.size + 2,31,none⟩ = false:=bo9.out.frozen 31
 have fo9_32 : w9.frozen? ⟨w.heap.size + 2,32,none⟩ = false:=bo9.out.frozen 32
 have fo9_33 : w9.frozen? ⟨w.heap.size + 2,33,none⟩ = false:=bo9.out.frozen 33
 have fo9_34 : w9.frozen? ⟨w.heap.size + 2,34,none⟩ = false:=bo9.out.frozen 34
 have fo9_35 : w9.frozen? ⟨w.heap.size + 2,35,none⟩ = false:=bo9.out.frozen 35
 have fo9_36 : w9.frozen? ⟨w.heap.size + 2,36,none⟩ = false:=bo9.out.frozen 36
 have fo9_37 : w9.frozen? ⟨w.heap.size + 2,37,none⟩ = false:=bo9.out.frozen 37
 have fo9_38 : w9.frozen? ⟨w.heap.size + 2,38,none⟩ = false:=bo9.out.frozen 38
 have fo9_39 : w9.frozen? ⟨w.heap.size + 2,39,none⟩ = false:=bo9.out.frozen 39
 have h1c : ((List.toArray ((.int .i64 x.phase_)::(.int .i64 x.tries_)::(.int .i64 x.spare_)::(.int .i64 x.pc_)::(.int .i64 x.rv_)::(.int .i64 x.newRv_)::(.int .i64 x.at_)::(.int .i64 x.fate_)::(.int .i64 x.stamp_)::(.int .i64 x.began_)::(.int .i64 x.ended_)::(.bool x.doomed_)::(.slice B0 n0 d0)::(.slice B1 n1 d1)::(.slice B2 n2 d2)::(.slice B3 n3 d3)::(.slice B4 n4 d4)::(.slice B5 n5 d5)::(.bool x.busy_)::(.int .i64 x.probe_.cell_)::(.int .i64 x.probe_.phase_)::(.int .i64 x.probe_.ver_)::(.int .i64 x.probe_.val_)::(.int .i64 x.commit_.who_)::(.int .i64 x.commit_.rv_)::(.int .i64 x.commit_.phase_)::(.int .i64 x.commit_.at_)::(.int .i64 x.commit_.wv_)::(.slice B6 p6 d6)::(.slice B7 p7 d7)::(.int .i64 x.fam_.rv_)::(.int .i64 x.fam_.clock_)::(.int .i64 x.fam_.owner_)::(.bool x.fam_.lost_)::(.slice B8 p8 d8)::(.slice B9 p9 d9)::(.slice B10 p10 d10)::(.slice B11 p11 d11)::(.slice B12 p12 d12)::(.slice B13 p13 d13)::[])) : Array Value).all (·.oneCell') = true:=by simp [Value.oneCell']
 have hold : ((List.toArray ((.int .i64 0)::(.int .i64 0)::(.int .i64 0)::(.int .i64 0)::(.int .i64 0)::(.int .i64 0)::(.int .i64 0)::(.int .i64 0)::(.int .i64 0)::(.int .i64 0)::(.int .i64 0)::(.bool false)::(.slice none 0 0)::(.slice none 0 0)::(.slice none 0 0)::(.slice none 0 0)::(.slice none 0 0)::(.slice none 0 0)::(.bool false)::(.int .i64 0)::(.int .i64 0)::(.int .i64 0)::(.int .i64 0)::(.int .i64 0)::(.int .i64 0)::(.int .i64 0)::(.int .i64 0)::(.int .i64 0)::(.slice none 0 0)::(.slice none 0 0)::(.int .i64 0)::(.int .i64 0)::(.int .i64 0)::(.bool false)::(.slice none 0 0)::(.slice none 0 0)::(.slice none 0 0)::(.slice none 0 0)::(.slice none 0 0)::(.slice none 0 0)::[])) : Array Value).size = ((List.toArray ((.int .i64 x.phase_)::(.int .i64 x.tries_)::(.int .i64 x.spare_)::(.int .i64 x.pc_)::(.int .i64 x.rv_)::(.int .i64 x.newRv_)::(.int .i64 x.at_)::(.int .i64 x.fate_)::(.int .i64 x.stamp_)::(.int .i64 x.began_)::(.int .i64 x.ended_)::(.bool x.doomed_)::(.slice B0 n0 d0)::(.slice B1 n1 d1)::(.slice B2 n2 d2)::(.slice B3 n3 d3)::(.slice B4 n4 d4)::(.slice B5 n5 d5)::(.bool x.busy_)::(.int .i64 x.probe_.cell_)::(.int .i64 x.probe_.phase_)::(.int .i64 x.probe_.ver_)::(.int .i64 x.probe_.val_)::(.int .i64 x.commit_.who_)::(.int .i64 x.commit_.rv_)::(.int .i64 x.commit_.phase_)::(.int .i64 x.commit_.at_)::(.int .i64 x.commit_.wv_)::(.slice B6 p6 d6)::(.slice B7 p7 d7)::(.int .i64 x.fam_.rv_)::(.int .i64 x.fam_.clock_)::(.int .i64 x.fam_.owner_)::(.bool x.fam_.lost_)::(.slice B8 p8 d8)::(.slice B9 p9 d9)::(.slice B10 p10 d10)::(.slice B11 p11 d11)::(.slice B12 p12 d12)::(.slice B13 p13 d13)::[])) : Array Value).size:=by simp
 go_wp2_with (refine wpList_load_row rfl 97 _ rfl (w.heap.size + 2) rfl 97 (List.toArray ((.int .i64 x.phase_)::(.int .i64 x.tries_)::(.int .i64 x.spare_)::(.int .i64 x.pc_)::(.int .i64 x.rv_)::(.int .i64 x.newRv_)::(.int .i64 x.at_)::(.int .i64 x.fate_)::(.int .i64 x.stamp_)::(.int .i64 x.began_)::(.int .i64 x.ended_)::(.bool x.doomed_)::(.slice B0 n0 d0)::(.slice B1 n1 d1)::(.slice B2 n2 d2)::(.slice B3 n3 d3)::(.slice B4 n4 d4)::(.slice B5 n5 d5)::(.bool x.busy_)::(.int .i64 x.probe_.cell_)::(.int .i64 x.probe_.phase_)::(.int .i64 x.probe_.ver_)::(.int .i64 x.probe_.val_)::(.int .i64 x.commit_.who_)::(.int .i64 x.commit_.rv_)::(.int .i64 x.commit_.phase_)::(.int .i64 x.commit_.at_)::(.int .i64 x.commit_.wv_)::(.slice B6 p6 d6)::(.slice B7 p7 d7)::(.int .i64 x.fam_.rv_)::(.int .i64 x.fam_.clock_)::(.int .i64 x.fam_.owner_)::(.bool x.fam_.lost_)::(.slice B8 p8 d8)::(.slice B9 p9 d9)::(.slice B10 p10 d10)::(.slice B11 p11 d11)::(.slice B12 p12 d12)::(.slice B13 p13 d13)::[])) (0,0) _ ?hg Tryz.underlying97 rfl Root.size_info ?hk;(case hg => (show Bx _ _ _ _;refine Bx.cast (((((((((((bo9.out).set_ _ _).set_ _ _).set_ _ _).set_ _ _).set_ _ _).set_ _ _).set_ _ _).set_ _ _).set_ _ _).set_ _ _) ?_;simp only [List.setIfInBounds_toArray,List.set_cons_succ,List.set_cons_zero]));(try simp only [Act.put,List.setIfInBounds_toArray,List.set_cons_zero,List.set_cons_succ]);refine wpList_store_row rfl 97 _ _ rfl (w.heap.size + 1) (List.toArray ((.int .i64 x.phase_)::(.int .i64 x.tries_)::(.int .i64 x.spare_)::(.int .i64 x.pc_)::(.int .i64 x.rv_)::(.int .i64 x.newRv_)::(.int .i64 x.at_)::(.int .i64 x.fate_)::(.int .i64 x.stamp_)::(.int .i64 x.began_)::(.int .i64 x.ended_)::(.bool x.doomed_)::(.slice B0 n0 d0)::(.slice B1 n1 d1)::(.slice B2 n2 d2)::(.slice B3 n3 d3)::(.slice B4 n4 d4)::(.slice B5 n5 d5)::(.bool x.busy_)::(.int .i64 x.probe_.cell_)::(.int .i64 x.probe_.phase_)::(.int .i64 x.probe_.ver_)::(.int .i64 x.probe_.val_)::(.int .i64 x.commit_.who_)::(.int .i64 x.commit_.rv_)::(.int .i64 x.commit_.phase_)::(.int .i64 x.commit_.at_)::(.int .i64 x.commit_.wv_)::(.slice B6 p6 d6)::(.slice B7 p7 d7)::(.int .i64 x.fam_.rv_)::(.int .i64 x.fam_.clock_)::(.int .i64 x.fam_.owner_)::(.bool x.fam_.lost_)::(.slice B8 p8 d8)::(.slice B9 p9 d9)::(.slice B10 p10 d10)::(.slice B11 p11 d11)::(.slice B12 p12 d12)::(.slice B13 p13 d13)::[])) rfl rfl 97 (List.toArray ((.int .i64 0)::(.int .i64 0)::(.int .i64 0)::(.int .i64 0)::(.int .i64 0)::(.int .i64 0)::(.int .i64 0)::(.int .i64 0)::(.int .i64 0)::(.int .i64 0)::(.int .i64 0)::(.bool false)::(.slice none 0 0)::(.slice none 0 0)::(.slice none 0 0)::(.slice none 0 0)::(.slice none 0 0)::(.slice none 0 0)::(.bool false)::(.int .i64 0)::(.int .i64 0)::(.int .i64 0)::(.int .i64 0)::(.int .i64 0)::(.int .i64 0)::(.int .i64 0)::(.int .i64 0)::(.int .i64 0)::(.slice none 0 0)::(.slice none 0 0)::(.int .i64 0)::(.int .i64 0)::(.int .i64 0)::(.bool false)::(.slice none 0 0)::(.slice none 0 0)::(.slice none 0 0)::(.slice none 0 0)::(.slice none 0 0)::(.slice none 0 0)::[])) ?hg2 Root.size_info hold h1c ?hk2;(case hg2 => (show Bx _ _ _ _;exact ((((((((((br9.out).far2 _).far2 _).far2 _).far2 _).far2 _).far2 _).far2 _).far2 _).far2 _).far2 _));(try simp only [Act.put]))
 refine bodyPost_ret (v:=.agg (List.toArray ((.int .i64 x.phase_)::(.int .i64 x.tries_)::(.int .i64 x.spare_)::(.int .i64 x.pc_)::(.int .i64 x.rv_)::(.int .i64 x.newRv_)::(.int .i64 x.at_)::(.int .i64 x.fate_)::(.int .i64 x.stamp_)::(.int .i64 x.began_)::(.int .i64 x.ended_)::(.bool x.doomed_)::(.slice B0 n0 d0)::(.slice B1 n1 d1)::(.slice B2 n2 d2)::(.slice B3 n3 d3)::(.slice B4 n4 d4)::(.slice B5 n5 d5)::(.bool x.busy_)::(.int .i64 x.probe_.cell_)::(.int .i64 x.probe_.phase_)::(.int .i64 x.probe_.ver_)::(.int .i64 x.probe_.val_)::(.int .i64 x.commit_.who_)::(.int .i64 x.commit_.rv_)::(.int .i64 x.commit_.phase_)::(.int .i64 x.commit_.at_)::(.int .i64 x.commit_.wv_)::(.slice B6 p6 d6)::(.slice B7 p7 d7)::(.int .i64 x.fam_.rv_)::(.int .i64 x.fam_.clock_)::(.int .i64 x.fam_.owner_)::(.bool x.fam_.lost_)::(.slice B8 p8 d8)::(.slice B9 p9 d9)::(.slice B10 p10 d10)::(.slice B11 p11 d11)::(.slice B12 p12 d12)::(.slice B13 p13 d13)::[]))) ?hres rfl ⟨((.int .i64 x.phase_)::(.int .i64 x.tries_)::(.int .i64 x.spare_)::(.int .i64 x.pc_)::(.int .i64 x.rv_)::(.int .i64 x.newRv_)::(.int .i64 x.at_)::(.int .i64 x.fate_)::(.int .i64 x.stamp_)::(.int .i64 x.began_)::(.int .i64 x.ended_)::(.bool x.doomed_)::(.slice B0 n0 d0)::(.slice B1 n1 d1)::(.slice B2 n2 d2)::(.slice B3 n3 d3)::(.slice B4 n4 d4)::(.slice B5 n5 d5)::(.bool x.busy_)::(.int .i64 x.probe_.cell_)::(.int .i64 x.probe_.phase_)::(.int .i64 x.probe_.ver_)::(.int .i64 x.probe_.val_)::(.int .i64 x.commit_.who_)::(.int .i64 x.commit_.rv_)::(.int .i64 x.commit_.phase_)::(.int .i64 x.commit_.at_)::(.int .i64 x.commit_.wv_)::(.slice B6 p6 d6)::(.slice B7 p7 d7)::(.int .i64 x.fam_.rv_)::(.int .i64 x.fam_.clock_)::(.int .i64 x.fam_.owner_)::(.bool x.fam_.lost_)::(.slice B8 p8 d8)::(.slice B9 p9 d9)::(.slice B10 p10 d10)::(.slice B11 p11 d11)::(.slice B12 p12 d12)::(.slice B13 p13 d13)::[]),rfl,?hw,?hx⟩
 case hres =>
  refine results_cell_row Tryz.results89 _ _ (w.heap.size + 1) 97 (List.toArray ((.int .i64 x.phase_)::(.int .i64 x.tries_)::(.int .i64 x.spare_)::(.int .i64 x.pc_)::(.int .i64 x.rv_)::(.int .i64 x.newRv_)::(.int .i64 x.at_)::(.int .i64 x.fate_)::(.int .i64 x.stamp_)::(.int .i64 x.began_)::(.int .i64 x.ended_)::(.bool x.doomed_)::(.slice B0 n0 d0)::(.slice B1 n1 d1)::(.slice B2 n2 d2)::(.slice B3 n3 d3)::(.slice B4 n4 d4)::(.slice B5 n5 d5)::(.bool x.busy_)::(.int .i64 x.probe_.cell_)::(.int .i64 x.probe_.phase_)::(.int .i64 x.probe_.ver_)::(.int .i64 x.probe_.val_)::(.int .i64 x.commit_.who_)::(.int .i64 x.commit_.rv_)::(.int .i64 x.commit_.phase_)::(.int .i64 x.commit_.at_)::(.int .i64 x.commit_.wv_)::(.slice B6 p6 d6)::(.slice B7 p7 d7)::(.int .i64 x.fam_.rv_)::(.int .i64 x.fam_.clock_)::(.int .i64 x.fam_.owner_)::(.bool x.fam_.lost_)::(.slice B8 p8 d8)::(.slice B9 p9 d9)::(.slice B10 p10 d10)::(.slice B11 p11 d11)::(.slice B12 p12 d12)::(.slice B13 p13 d13)::[])) (0,0) _ rfl ?_ Tryz.underlying97 rfl Root.size_info
  show Bx _ _ _ _
  exact Bx.row (((((((((((br9.out).far2 _).far2 _).far2 _).far2 _).far2 _).far2 _).far2 _).far2 _).far2 _).far2 _) _
 ·refine (?_ : ∀ wz,Chg (fun g => g = w.heap.size + 2 ∨ g = w.heap.size + 1) w9 wz → Root.W wz (fun g => w.heap.size ≤ g ∧ g < wz.heap.size) ((.int .i64 x.phase_)::(.int .i64 x.tries_)::(.int .i64 x.spare_)::(.int .i64 x.pc_)::(.int .i64 x.rv_)::(.int .i64 x.newRv_)::(.int .i64 x.at_)::(.int .i64 x.fate_)::(.int .i64 x.stamp_)::(.int .i64 x.began_)::(.int .i64 x.ended_)::(.bool x.doomed_)::(.slice B0 n0 d0)::(.slice B1 n1 d1)::(.slice B2 n2 d2)::(.slice B3 n3 d3)::(.slice B4 n4 d4)::(.slice B5 n5 d5)::(.bool x.busy_)::(.int .i64 x.probe_.cell_)::(.int .i64 x.probe_.phase_)::(.int .i64 x.probe_.ver_)::(.int .i64 x.probe_.val_)::(.int .i64 x.commit_.who_)::(.int .i64 x.commit_.rv_)::(.int .i64 x.commit_.phase_)::(.int .i64 x.commit_.at_)::(.int .i64 x.commit_.wv_)::(.slice B6 p6 d6)::(.slice B7 p7 d7)::(.int .i64 x.fam_.rv_)::(.int .i64 x.fam_.clock_)::(.int .i64 x.fam_.owner_)::(.bool x.fam_.lost_)::(.slice B8 p8 d8)::(.slice B9 p9 d9)::(.slice B10 p10 d10)::(.slice B11 p11 d11)::(.slice B12 p12 d12)::(.slice B13 p13 d13)::[]) x) _ ((((((((((((Chg.refl (fun g => g = w.heap.size + 2 ∨ g = w.heap.size + 1) _).sc2 _).sc2 _).sc2 _).sc2 _).sc2 _).sc2 _).sc2 _).sc2 _).sc2 _).sc2 _).row (.inr rfl) _)
  intro wz cc
  have zz:=cc.size
  exact ⟨B0,n0,d0,B1,n1,d1,B2,n2,d2,B3,n3,d3,B4,n4,d4,B5,n5,d5,[.int .i64 x.commit_.who_,.int .i64 x.commit_.rv_,.int .i64 x.commit_.phase_,.int .i64 x.commit_.at_,.int .i64 x.commit_.wv_,.slice B6 p6 d6,.slice B7 p7 d7],[.int .i64 x.fam_.rv_,.int .i64 x.fam_.clock_,.int .i64 x.fam_.owner_,.bool x.fam_.lost_,.slice B8 p8 d8,.slice B9 p9 d9,.slice B10 p10 d10,.slice B11 p11 d11,.slice B12 p12 d12,.slice B13 p13 d13],lb [w1.heap.size,w2.heap.size,w3.heap.size,w4.heap.size,w5.heap.size,w6.heap.size,w8.heap.size,w9.heap.size],rfl,⟨K0.out,mh0,(o0.out.chg cc (fun g hg q => by have h1:=hg.1;have hq3 : g = w.heap.size + 2 ∨ g = w.heap.size + 1:=q;omega)).mono (fun g _ hg => ⟨⟨by have h1:=hg.1;omega,by have h2:=hg.2;omega⟩,by have h1:=hg.1;have h2:=hg.2;exact lb_here (by omega)⟩)⟩,⟨K1.out,mh1,(o1.out.chg cc (fun g hg q => by have h1:=hg.1;have hq3 : g = w.heap.size + 2 ∨ g = w.heap.size + 1:=q;omega)).mono (fun g _ hg => ⟨⟨by have h1:=hg.1;omega,by have h2:=hg.2;omega⟩,by have h1:=hg.1;have h2:=hg.2;exact lb_next (by omega) (lb_here (by omega))⟩)⟩,⟨K2.out,mh2,(o2.out.chg cc (fun g hg q => by have h1:=hg.1;have hq3 : g = w.heap.size + 2 ∨ g = w.heap.size + 1:=q;omega)).mono (fun g _ hg => ⟨⟨by have h1:=hg.1;omega,by have h2:=hg.2;omega⟩,by have h1:=hg.1;have h2:=hg.2;exact lb_next (by omega) (lb_next (by omega) (lb_here (by omega)))⟩)⟩,⟨SlW.cap o3.out,mh3,(o3.out.chg Mark.W_good cc (fun g hg q => by have h1:=hg.1;have hq3 : g = w.heap.size + 2 ∨ g = w.heap.size + 1:=q;omega)).mono Mark.W_good (fun g hg => ⟨⟨by have h1:=hg.1;omega,by have h2:=hg.2;omega⟩,by have h1:=hg.1;have h2:=hg.2;exact lb_next (by omega) (lb_next (by omega) (lb_next (by omega) (lb_here (by omega))))⟩)⟩,⟨K4.out,mh4,(o4.out.chg cc (fun g hg q => by have h1:=hg.1;have hq3 : g = w.heap.size + 2 ∨ g = w.heap.size + 1:=q;omega)).mono (fun g _ hg => ⟨⟨by have h1:=hg.1;omega,by have h2:=hg.2;omega⟩,by have h1:=hg.1;have h2:=hg.2;exact lb_next (by omega) (lb_next (by omega) (lb_next (by omega) (lb_next (by omega) (lb_here (by omega)))))⟩)⟩,⟨K5.out,mh5,(o5.out.chg cc (fun g hg q => by have h1:=hg.1;have hq3 : g = w.heap.size + 2 ∨ g = w.heap.size + 1:=q;omega)).mono (fun g _ hg => ⟨⟨by have h1:=hg.1;omega,by have h2:=hg.2;omega⟩,by have h1:=hg.1;have h2:=hg.2;exact lb_next (by omega) (lb_next (by omega) (lb_next (by omega) (lb_next (by omega) (lb_next (by omega) (lb_here (by omega))))))⟩)⟩,Commit.W_good.mono (Commit.W_good.chg o6.out cc (fun g hg q => by have h1:=hg.1;have hq3 : g = w.heap.size + 2 ∨ g = w.heap.size + 1:=q;omega)) (fun g hg => ⟨⟨by have h1:=hg.1;omega,by have h2:=hg.2;omega⟩,by have h1:=hg.1;have h2:=hg.2;exact lb_next (by omega) (lb_next (by omega) (lb_next (by omega) (lb_next (by omega) (lb_next (by omega) (lb_next (by omega) (lb_here (by omega)))))))⟩),Family.W_good.mono (Family.W_good.chg o7.out cc (fun g hg q => by have h1:=hg.1;have hq3 : g = w.heap.size + 2 ∨ g = w.heap.size + 1:=q;omega)) (fun g hg => ⟨⟨by have h1:=hg.1;omega,by have h2:=hg.2;omega⟩,by have h1:=hg.1;have h2:=hg.2;exact lb_next (by omega) (lb_next (by omega) (lb_next (by omega) (lb_next (by omega) (lb_next (by omega) (lb_next (by omega) (lb_next (by omega) (lb_here (by omega))))))))⟩)⟩
 ·exact (((((((((((X9).sc2 _).sc2 _).sc2 _).sc2 _).sc2 _).sc2 _).sc2 _).sc2 _).sc2 _).sc2 _).row (by omega) _

end Go.Proofs.YtoegjiigaoanbaaGreat
namespace Go.Proofs.YtoegjiigaoanbaaGreat
open Go.RowKit Go.Deep
set_option linter.unnecessarySimpa false
set_option maxHeartbeats 400000000
open Go.Lib (hid)

set_option maxRecDepth 8000 in
theorem eqRoot_same (x : Root) (cs cs' : List Value) (w : World) (S S' : Nat → Prop) (h : Root.R w S cs x) (u : Root.R w S' cs' x) :
  Calls Tryz.prog 105 #[.agg cs.toArray,.agg cs'.toArray] w fun e w' => e = .returned (.bool true) ∧ Ext w w':=by
 obtain ⟨A0,n0,c0,A1,n1,c1,A2,n2,c2,A3,n3,c3,A4,n4,c4,A5,n5,c5,v6,v7,rfl,⟨kh0,mh0,h0⟩,⟨kh1,mh1,h1⟩,⟨kh2,mh2,h2⟩,⟨kh3,mh3,h3⟩,⟨kh4,mh4,h4⟩,⟨kh5,mh5,h5⟩,h6,h7⟩:=h
 obtain ⟨A6,n6,c6,A7,n7,c7,rfl⟩:=Commit.R_cells h6
 obtain ⟨A8,n8,c8,A9,n9,c9,A10,n10,c10,A11,n11,c11,A12,n12,c12,A13,n13,c13,rfl⟩:=Family.R_cells h7
 obtain ⟨B0,p0,d0,B1,p1,d1,B2,p2,d2,B3,p3,d3,B4,p4,d4,B5,p5,d5,z6,z7,rfl,⟨ku0,mu0,u0⟩,⟨ku1,mu1,u1⟩,⟨ku2,mu2,u2⟩,⟨ku3,mu3,u3⟩,⟨ku4,mu4,u4⟩,⟨ku5,mu5,u5⟩,u6,u7⟩:=u
 obtain ⟨B6,p6,d6,B7,p7,d7,rfl⟩:=Commit.R_cells u6
 obtain ⟨B8,p8,d8,B9,p9,d9,B10,p10,d10,B11,p11,d11,B12,p12,d12,B13,p13,d13,rfl⟩:=Family.R_cells u7
 obtain rfl : n0 = p0:=by have a:=h0.len;have b:=u0.len;omega
 obtain rfl : n1 = p1:=by have a:=h1.flen Row.cells_length (by omega);have b:=u1.flen Row.cells_length (by omega);omega
 obtain rfl : n2 = p2:=by have a:=h2.flen Row.cells_length (by omega);have b:=u2.flen Row.cells_length (by omega);omega
 obtain rfl : n3 = p3:=by have a:=h3.1;have b:=u3.1;omega
 obtain rfl : n4 = p4:=by have a:=h4.flen Undo.cells_length (by omega);have b:=u4.flen Undo.cells_length (by omega);omega
 obtain rfl : n5 = p5:=by have a:=h5.len;have b:=u5.len;omega
 have H0:=hid h0
 have U0:=hid u0
 have H1:=hid h1
 have U1:=hid u1
 have H2:=hid h2
 have U2:=hid u2
 have H3:=hid h3
 have U3:=hid u3
 have H4:=hid h4
 have U4:=hid u4
 have H5:=hid h5
 have U5:=hid u5
 have H6:=hid h6
 have U6:=hid u6
 have H7:=hid h7
 have U7:=hid u7
 clear h0 u0 h1 u1 h2 u2 h3 u3 h4 u4 h5 u5 h6 u6 h7 u7
 simp only [List.cons_append,List.nil_append]
 go_enter Tryz.func105,Tryz.ntmps105
 go_wp2_with fail
 refine (eqIntS_same _ _ _ _ _ _ _ S S' (H0.out.ext (((Ext.refl' w).al _).al _)) (U0.out.ext (((Ext.refl' w).al _).al _)) mh0).mono ?_
 rintro e w1 ⟨rfl,x1⟩
 have z1 : w.heap.size + 2 ≤ w1.heap.size:=by have h:=x1.size;(try simp at h);omega
 have ba1 : Hid (Bx w1 (w.heap.size) 97 (zRt x (.slice A0 n0 c0) (.slice A1 n1 c1) (.slice A2 n2 c2) (.slice A3 n3 c3) (.slice A4 n4 c4) (.slice A5 n5 c5) (.slice A6 n6 c6) (.slice A7 n7 c7) (.slice A8 n8 c8) (.slice A9 n9 c9) (.slice A10 n10 c10) (.slice A11 n11 c11) (.slice A12 n12 c12) (.slice A13 n13 c13))):=Bx.ext ((Bx.new' _ _ _ rfl).al _) x1
 have bb1 : Hid (Bx w1 (w.heap.size + 1) 97 (zRt x (.slice B0 n0 d0) (.slice B1 n1 d1) (.slice B2 n2 d2) (.slice B3 n3 d3) (.slice B4 n4 d4) (.slice B5 n5 d5) (.slice B6 p6 d6) (.slice B7 p7 d7) (.slice B8 p8 d8) (.slice B9 p9 d9) (.slice B10 p10 d10) (.slice B11 p11 d11) (.slice B12 p12 d12) (.slice B13 p13 d13))):=Bx.ext (Bx.new' _ _ _ (by simp)) x1
 have X1 : Ext w w1:=Ext.tr (((Ext.refl' w).al _).al _) x1
 clear x1
 have ca1_13 : w1.cell? ⟨w.heap.size,13,none⟩ = some (.slice A1 n1 c1):=ba1.out.cell 13
 have cb1_13 : w1.cell? ⟨w.heap.size + 1,13,none⟩ = some (.slice B1 n1 d1):=bb1.out.cell 13
 go_wp2_with fail
 refine (eqRowS_same _ _ _ _ _ _ _ S S' (H1.out.ext (X1)) (U1.out.ext (X1)) mh1).mono ?_
 rintro e w2 ⟨rfl,x2⟩
 have z2 : w.heap.size + 2 ≤ w2.heap.size:=by have h:=x2.size;(try simp at h);omega
 have ba2 : Hid (Bx w2 (w.heap.size) 97 (zRt x (.slice A0 n0 c0) (.slice A1 n1 c1) (.slice A2 n2 c2) (.slice A3 n3 c3) (.slice A4 n4 c4) (.slice A5 n5 c5) (.slice A6 n6 c6) (.slice A7 n7 c7) (.slice A8 n8 c8) (.slice A9 n9 c9) (.slice A10 n10 c10) (.slice A11 n11 c11) (.slice A12 n12 c12) (.slice A13 n13 c13))):=Bx.ext (ba1.out) x2
 have bb2 : Hid (Bx w2 (w.heap.size + 1) 97 (zRt x (.slice B0 n0 d0) (.slice B1 n1 d1) (.slice B2 n2 d2) (.slice B3 n3 d3) (.slice B4 n4 d4) (.slice B5 n5 d5) (.slice B6 p6 d6) (.slice B7 p7 d7) (.slice B8 p8 d8) (.slice B9 p9 d9) (.slice B10 p10 d10) (.slice B11 p11 d11) (.slice B12 p12 d12) (.slice B13 p13 d13))):=Bx.ext (bb1.out) x2
 have X2 : Ext w w2:=Ext.tr (X1) x2
 clear x2
 have ca2_14 : w2.cell? ⟨w.heap.size,14,none⟩ = some (.slice A2 n2 c2):=ba2.out.cell 14
 have cb2_14 : w2.cell? ⟨w.heap.size + 1,14,none⟩ = some (.slice B2 n2 d2):=bb2.out.cell 14
 go_wp2_with fail
 refine (eqRowS_same _ _ _ _ _ _ _ S S' (H2.out.ext (X2)) (U2.out.ext (X2)) mh2).mono ?_
 rintro e w3 ⟨rfl,x3⟩
 have z3 : w.heap.size + 2 ≤ w3.heap.size:=by have h:=x3.size;(try simp at h);omega
 have ba3 : Hid (Bx w3 (w.heap.size) 97 (zRt x (.slice A0 n0 c0) (.slice A1 n1 c1) (.slice A2 n2 c2) (.slice A3 n3 c3) (.slice A4 n4 c4) (.slice A5 n5 c5) (.slice A6 n6 c6) (.slice A7 n7 c7) (.slice A8 n8 c8) (.slice A9 n9 c9) (.slice A10 n10 c10) (.slice A11 n11 c11) (.slice A12 n12 c12) (.slice A13 n13 c13))):=Bx.ext (ba2.out) x3
 have bb3 : Hid (Bx w3 (w.heap.size + 1) 97 (zRt x (.slice B0 n0 d0) (.slice B1 n1 d1) (.slice B2 n2 d2) (.slice B3 n3 d3) (.slice B4 n4 d4) (.slice B5 n5 d5) (.slice B6 p6 d6) (.slice B7 p7 d7) (.slice B8 p8 d8) (.slice B9 p9 d9) (.slice B10 p10 d10) (.slice B11 p11 d11) (.slice B12 p12 d12) (.slice B13 p13 d13))):=Bx.ext (bb2.out) x3
 have X3 : Ext w w3:=Ext.tr (X2) x3
 clear x3
 have ca3_15 : w3.cell? ⟨w.heap.size,15,none⟩ = some (.slice A3 n3 c3):=ba3.out.cell 15
 have cb3_15 : w3.cell? ⟨w.heap.size + 1,15,none⟩ = some (.slice B3 n3 d3):=bb3.out.cell 15
 go_wp2_with fail
 refine (eqMarkS_same _ _ _ _ _ x.marks_ _ S S' (SlR.ext Mark.R_good H3.out (X3)) (SlR.ext Mark.R_good U3.out (X3)) mh3).mono ?_
 rintro e w4 ⟨rfl,x4⟩
 have z4 : w.heap.size + 2 ≤ w4.heap.size:=by have h:=x4.size;(try simp at h);omega
 have ba4 : Hid (Bx w4 (w.heap.size) 97 (zRt x (.slice A0 n0 c0) (.slice A1 n1 c1) (.slice A2 n2 c2) (.slice A3 n3 c3) (.slice A4 n4 c4) (.slice A5 n5 c5) (.slice A6 n6 c6) (.slice A7 n7 c7) (.slice A8 n8 c8) (.slice A9 n9 c9) (.slice A10 n10 c10) (.slice A11 n11 c11) (.slice A12 n12 c12) (.slice A13 n13 c13))):=Bx.ext (ba3.out) x4
 have bb4 : Hid (Bx w4 (w.heap.size + 1) 97 (zRt x (.slice B0 n0 d0) (.slice B1 n1 d1) (.slice B2 n2 d2) (.slice B3 n3 d3) (.slice B4 n4 d4) (.slice B5 n5 d5) (.slice B6 p6 d6) (.slice B7 p7 d7) (.slice B8 p8 d8) (.slice B9 p9 d9) (.slice B10 p10 d10) (.slice B11 p11 d11) (.slice B12 p12 d12) (.slice B13 p13 d13))):=Bx.ext (bb3.out) x4
 have X4 : Ext w w4:=Ext.tr (X3) x4
 clear x4
 have ca4_16 : w4.cell? ⟨w.heap.size,16,none⟩ = some (.slice A4 n4 c4):=ba4.out.cell 16
 have cb4_16 : w4.cell? ⟨w.heap.size + 1,16,none⟩ = some (.slice B4 n4 d4):=bb4.out.cell 16
 go_wp2_with fail
 refine (eqUndoS_same _ _ _ _ _ _ _ S S' (H4.out.ext (X4)) (U4.out.ext (X4)) mh4).mono ?_
 rintro e w5 ⟨rfl,x5⟩
 have z5 : w.heap.size + 2 ≤ w5.heap.size:=by have h:=x5.size;(try simp at h);omega
 have ba5 : Hid (Bx w5 (w.heap.size) 97 (zRt x (.slice A0 n0 c0) (.slice A1 n1 c1) (.slice A2 n2 c2) (.slice A3 n3 c3) (.slice A4 n4 c4) (.slice A5 n5 c5) (.slice A6 n6 c6) (.slice A7 n7 c7) (.slice A8 n8 c8) (.slice A9 n9 c9) (.slice A10 n10 c10) (.slice A11 n11 c11) (.slice A12 n12 c12) (.slice A13 n13 c13))):=Bx.ext (ba4.out) x5
 have bb5 : Hid (Bx w5 (w.heap.size + 1) 97 (zRt x (.slice B0 n0 d0) (.slice B1 n1 d1) (.slice B2 n2 d2) (.slice B3 n3 d3) (.slice B4 n4 d4) (.slice B5 n5 d5) (.slice B6 p6 d6) (.slice B7 p7 d7) (.slice B8 p8 d8) (.slice B9 p9 d9) (.slice B10 p10 d10) (.slice B11 p11 d11) (.slice B12 p12 d12) (.slice B13 p13 d13))):=Bx.ext (bb4.out) x5
 have X5 : Ext w w5:=Ext.tr (X4) x5
 clear x5
 have ca5_17 : w5.cell? ⟨w.heap.size,17,none⟩ = some (.slice A5 n5 c5):=ba5.out.cell 17
 have cb5_17 : w5.cell? ⟨w.heap.size + 1,17,none⟩ = some (.slice B5 n5 d5):=bb5.out.cell 17
 go_wp2_with fail
 refine (eqIntS_same _ _ _ _ _ _ _ S S' (H5.out.ext (X5)) (U5.out.ext (X5)) mh5).mono ?_
 rintro e w6 ⟨rfl,x6⟩
 have z6 : w.heap.size + 2 ≤ w6.heap.size:=by have h:=x6.size;(try simp at h);omega
 have ba6 : Hid (Bx w6 (w.heap.size) 97 (zRt x (.slice A0 n0 c0) (.slice A1 n1 c1) (.slice A2 n2 c2) (.slice A3 n3 c3) (.slice A4 n4 c4) (.slice A5 n5 c5) (.slice A6 n6 c6) (.slice A7 n7 c7) (.slice A8 n8 c8) (.slice A9 n9 c9) (.slice A10 n10 c10) (.slice A11 n11 c11) (.slice A12 n12 c12) (.slice A13 n13 c13))):=Bx.ext (ba5.out) x6
 have bb6 : Hid (Bx w6 (w.heap.size + 1) 97 (zRt x (.slice B0 n0 d0) (.slice B1 n1 d1) (.slice B2 n2 d2) (.slice B3 n3 d3) (.slice B4 n4 d4) (.slice B5 n5 d5) (.slice B6 p6 d6) (.slice B7 p7 d7) (.slice B8 p8 d8) (.slice B9 p9 d9) (.slice B10 p10 d10) (.slice B11 p11 d11) (.slice B12 p12 d12) (.slice B13 p13 d13))):=Bx.ext (bb5.out) x6
 have X6 : Ext w w6:=Ext.tr (X5) x6
 clear x6
 have ca6_18 : w6.cell? ⟨w.heap.size,18,none⟩ = some (.bool x.busy_):=ba6.out.cell 18
 have cb6_18 : w6.cell? ⟨w.heap.size + 1,18,none⟩ = some (.bool x.busy_):=bb6.out.cell 18
 have ca6_19 : w6.cell? ⟨w.heap.size,19,none⟩ = some (.int .i64 x.probe_.cell_):=ba6.out.cell 19
 have cb6_19 : w6.cell? ⟨w.heap.size + 1,19,none⟩ = some (.int .i64 x.probe_.cell_):=bb6.out.cell 19
 have ca6_20 : w6.cell? ⟨w.heap.size,20,none⟩ = some (.int .i64 x.probe_.phase_):=ba6.out.cell 20
 have cb6_20 : w6.cell? ⟨w.heap.size + 1,20,none⟩ = some (.int .i64 x.probe_.phase_):=bb6.out.cell 20
 have ca6_21 : w6.cell? ⟨w.heap.size,21,none⟩ = some (.int .i64 x.probe_.ver_):=ba6.out.cell 21
 have cb6_21 : w6.cell? ⟨w.heap.size + 1,21,none⟩ = some (.int .i64 x.probe_.ver_):=bb6.out.cell 21
 have ca6_22 : w6.cell? ⟨w.heap.size,22,none⟩ = some (.int .i64 x.probe_.val_):=ba6.out.cell 22
 have cb6_22 : w6.cell? ⟨w.heap.size + 1,22,none⟩ = some (.int .i64 x.probe_.val_):=bb6.out.cell 22
 go_wp2_with fail
 refine (eqProbe_same _ _ _ _ _).mono ?_
 rintro e w7 ⟨rfl,x7⟩
 have z7 : w.heap.size + 2 ≤ w7.heap.size:=by have h:=x7.size;(try simp at h);omega
 have ba7 : Hid (Bx w7 (w.heap.size) 97 (zRt x (.slice A0 n0 c0) (.slice A1 n1 c1) (.slice A2 n2 c2) (.slice A3 n3 c3) (.slice A4 n4 c4) (.slice A5 n5 c5) (.slice A6 n6 c6) (.slice A7 n7 c7) (.slice A8 n8 c8) (.slice A9 n9 c9) (.slice A10 n10 c10) (.slice A11 n11 c11) (.slice A12 n12 c12) (.slice A13 n13 c13))):=Bx.ext (ba6.out) x7
 have bb7 : Hid (Bx w7 (w.heap.size + 1) 97 (zRt x (.slice B0 n0 d0) (.slice B1 n1 d1) (.slice B2 n2 d2) (.slice B3 n3 d3) (.slice B4 n4 d4) (.slice B5 n5 d5) (.slice B6 p6 d6) (.slice B7 p7 d7) (.slice B8 p8 d8) (.slice B9 p9 d9) (.slice B10 p10 d10) (.slice B11 p11 d11) (.slice B12 p12 d12) (.slice B13 p13 d13))):=Bx.ext (bb6.out) x7
 have X7 : Ext w w7:=Ext.tr (X6) x7
 clear x7
 have ca7_23 : w7.cell? ⟨w.heap.size,23,none⟩ = some (.int .i64 x.commit_.who_):=ba7.out.cell 23
 have cb7_23 : w7.cell? ⟨w.heap.size + 1,23,none⟩ = some (.int .i64 x.commit_.who_):=bb7.out.cell 23
 have ca7_24 : w7.cell? ⟨w.heap.size,24,none⟩ = some (.int .i64 x.commit_.rv_):=ba7.out.cell 24
 have cb7_24 : w7.cell? ⟨w.heap.size + 1,24,none⟩ = some (.int .i64 x.commit_.rv_):=bb7.out.cell 24
 have ca7_25 : w7.cell? ⟨w.heap.size,25,none⟩ = some (.int .i64 x.commit_.phase_):=ba7.out.cell 25
 have cb7_25 : w7.cell? ⟨w.heap.size + 1,25,none⟩ = some (.int .i64 x.commit_.phase_):=bb7.out.cell 25
 have ca7_26 : w7.cell? ⟨w.heap.size,26,none⟩ = some (.int .i64 x.commit_.at_):=ba7.out.cell 26
 have cb7_26 : w7.cell? ⟨w.heap.size + 1,26,none⟩ = some (.int .i64 x.commit_.at_):=bb7.out.cell 26
 have ca7_27 : w7.cell? ⟨w.heap.size,27,none⟩ = some (.int .i64 x.commit_.wv_):=ba7.out.cell 27
 have cb7_27 : w7.cell? ⟨w.heap.size + 1,27,none⟩ = some (.int .i64 x.commit_.wv_):=bb7.out.cell 27
 have ca7_28 : w7.cell? ⟨w.heap.size,28,none⟩ = some (.slice A6 n6 c6):=ba7.out.cell 28
 have cb7_28 : w7.cell? ⟨w.heap.size + 1,28,none⟩ = some (.slice B6 p6 d6):=bb7.out.cell 28
 have ca7_29 : w7.cell? ⟨w.heap.size,29,none⟩ = some (.slice A7 n7 c7):=ba7.out.cell 29
 have cb7_29 : w7.cell? ⟨w.heap.size + 1,29,none⟩ = some (.slice B7 p7 d7):=bb7.out.cell 29
 go_wp2_with fail
 refine (eqCommit_same x.commit_ _ _ _ S S' (Commit.R_good.ext H6.out (X7)) (Commit.R_good.ext U6.out (X7))).mono ?_
 rintro e w8 ⟨rfl,x8⟩
 have z8 : w.heap.size + 2 ≤ w8.heap.size:=by have h:=x8.size;(try simp at h);omega
 have ba8 : Hid (Bx w8 (w.heap.size) 97 (zRt x (.slice A0 n0 c0) (.slice A1 n1 c1) (.slice A2 n2 c2) (.slice A3 n3 c3) (.slice A4 n4 c4) (.slice A5 n5 c5) (.slice A6 n6 c6) (.slice A7 n7 c7) (.slice A8 n8 c8) (.slice A9 n9 c9) (.slice A10 n10 c10) (.slice A11 n11 c11) (.slice A12 n12 c12) (.slice A13 n13 c13))):=Bx.ext (ba7.out) x8
 have bb8 : Hid (Bx w8 (w.heap.size + 1) 97 (zRt x (.slice B0 n0 d0) (.slice B1 n1 d1) (.slice B2 n2 d2) (.slice B3 n3 d3) (.slice B4 n4 d4) (.slice B5 n5 d5) (.slice B6 p6 d6) (.slice B7 p7 d7) (.slice B8 p8 d8) (.slice B9 p9 d9) (.slice B10 p10 d10) (.slice B11 p11 d11) (.slice B12 p12 d12) (.slice B13 p13 d13))):=Bx.ext (bb7.out) x8
 have X8 : Ext w w8:=Ext.tr (X7) x8
 clear x8
 have ca8_30 : w8.cell? ⟨w.heap.size,30,none⟩ = some (.int .i64 x.fam_.rv_):=ba8.out.cell 30
 have cb8_30 : w8.cell? ⟨w.heap.size + 1,30,none⟩ = some (.int .i64 x.fam_.rv_):=bb8.out.cell 30
 have ca8_31 : w8.cell? ⟨w.heap.size,31,none⟩ = some (.int .i64 x.fam_.clock_):=ba8.out.cell 31
 have cb8_31 : w8.cell? ⟨w.heap.size + 1,31,none⟩ = some (.int .i64 x.fam_.clock_):=bb8.out.cell 31
 have ca8_32 : w8.cell? ⟨w.heap.size,32,none⟩ = some (.int .i64 x.fam_.owner_):=ba8.out.cell 32
 have cb8_32 : w8.cell? ⟨w.heap.size + 1,32,none⟩ = some (.int .i64 x.fam_.owner_):=bb8.out.cell 32
 have ca8_33 : w8.cell? ⟨w.heap.size,33,none⟩ = some (.bool x.fam_.lost_):=ba8.out.cell 33
 have cb8_33 : w8.cell? ⟨w.heap.size + 1,33,none⟩ = some (.bool x.fam_.lost_):=bb8.out.cell 33
 have ca8_34 : w8.cell? ⟨w.heap.size,34,none⟩ = some (.slice A8 n8 c8):=ba8.out.cell 34
 have cb8_34 : w8.cell? ⟨w.heap.size + 1,34,none⟩ = some (.slice B8 p8 d8):=bb8.out.cell 34
 have ca8_35 : w8.cell? ⟨w.heap.size,35,none⟩ = some (.slice A9 n9 c9):=ba8.out.cell 35
 have cb8_35 : w8.cell? ⟨w.heap.size + 1,35,none⟩ = some (.slice B9 p9 d9):=bb8.out.cell 35
 have ca8_36 : w8.cell? ⟨w.heap.size,36,none⟩ = some (.slice A10 n10 c10):=ba8.out.cell 36
 have cb8_36 : w8.cell? ⟨w.heap.size + 1,36,none⟩ = some (.slice B10 p10 d10):=bb8.out.cell 36
 have ca8_37 : w8.cell? ⟨w.heap.size,37,none⟩ = some (.slice A11 n11 c11):=ba8.out.cell 37
 have cb8_37 : w8.cell? ⟨w.heap.size + 1,37,none⟩ = some (.slice B11 p11 d11):=bb8.out.cell 37
 have ca8_38 : w8.cell? ⟨w.heap.size,38,none⟩ = some (.slice A12 n12 c12):=ba8.out.cell 38
 have cb8_38 : w8.cell? ⟨w.heap.size + 1,38,none⟩ = some (.slice B12 p12 d12):=bb8.out.cell 38
 have ca8_39 : w8.cell? ⟨w.heap.size,39,none⟩ = some (.slice A13 n13 c13):=ba8.out.cell 39
 have cb8_39 : w8.cell? ⟨w.heap.size + 1,39,none⟩ = some (.slice B13 p13 d13):=bb8.out.cell 39
 go_wp2_with fail
 refine (eqFamily_same x.fam_ _ _ _ S S' (Family.R_good.ext H7.out (X8)) (Family.R_good.ext U7.out (X8))).mono ?_
 rintro e w9 ⟨rfl,x9⟩
 have z9 : w.heap.size + 2 ≤ w9.heap.size:=by have h:=x9.size;(try simp at h);omega
 have ba9 : Hid (Bx w9 (w.heap.size) 97 (zRt x (.slice A0 n0 c0) (.slice A1 n1 c1) (.slice A2 n2 c2) (.slice A3 n3 c3) (.slice A4 n4 c4) (.slice A5 n5 c5) (.slice A6 n6 c6) (.slice A7 n7 c7) (.slice A8 n8 c8) (.slice A9 n9 c9) (.slice A10 n10 c10) (.slice A11 n11 c11) (.slice A12 n12 c12) (.slice A13 n13 c13))):=Bx.ext (ba8.out) x9
 have bb9 : Hid (Bx w9 (w.heap.size + 1) 97 (zRt x (.slice B0 n0 d0) (.slice B1 n1 d1) (.slice B2 n2 d2) (.slice B3 n3 d3) (.slice B4 n4 d4) (.slice B5 n5 d5) (.slice B6 p6 d6) (.slice B7 p7 d7) (.slice B8 p8 d8) (.slice B9 p9 d9) (.slice B10 p10 d10) (.slice B11 p11 d11) (.slice B12 p12 d12) (.slice B13 p13 d13))):=Bx.ext (bb8.out) x9
 have X9 : Ext w w9:=Ext.tr (X8) x9
 clear x9
 go_wp2
 go_ret
 exact ⟨rfl,X9⟩

end Go.Proofs.YtoegjiigaoanbaaGreat
namespace Go.Proofs.YtoegjiigaoanbaaGreat
open Go.RowKit Go.Deep
set_option linter.unnecessarySimpa false
set_option maxHeartbeats 400000000
open Go.Lib (hid)


end Go.Proofs.YtoegjiigaoanbaaGreat
namespace Go.Proofs.YtoegjiigaoanbaaGreat
open Go.RowKit Go.Deep
set_option linter.unnecessarySimpa false
set_option maxHeartbeats 400000000
open Go.Lib (hid)

/-! ### Word -/
structure Word where
 val_ : Int
 ver_ : Int
 owner_ : Int
deriving Inhabited,DecidableEq
def Word.cells (s : Word) : List Value:=[.int .i64 s.val_,.int .i64 s.ver_,.int .i64 s.owner_]
theorem Word.cells_length (s : Word) : s.cells.length = 3:=rfl
def Word.good (s : Word) : Prop:=(Lit.int .i64 s.val_).wf = true ∧ (Lit.int .i64 s.ver_).wf = true ∧ (Lit.int .i64 s.owner_).wf = true
theorem opens_Word : Opens Tryz.prog 217 (fun _ cs (s : Word) => cs = s.cells ∧ s.good):=by
 intro H enc w base spare held fuel cs x h
 obtain ⟨hl,m,hf⟩:=trod_fields Tryz.underlying217 (by kernel_rfl) (by kernel_rfl) h
 obtain ⟨v0,y0,e0,t0⟩:=hf 0 _ rfl
 obtain ⟨f0,h0,-,g0⟩:=DataW.trod_int Tryz.underlying3 t0
 injection h0 with h0 _;subst h0
 obtain ⟨v1,y1,e1,t1⟩:=hf 1 _ rfl
 obtain ⟨f1,h1,-,g1⟩:=DataW.trod_int Tryz.underlying3 t1
 injection h1 with h1 _;subst h1
 obtain ⟨v2,y2,e2,t2⟩:=hf 2 _ rfl
 obtain ⟨f2,h2,-,g2⟩:=DataW.trod_int Tryz.underlying3 t2
 injection h2 with h2 _;subst h2
 refine ⟨⟨f0,f1,f2⟩,?_,⟨g0,g1,g2⟩⟩
 match cs,hl with
 | [c0,c1,c2],_ =>
  simp only [List.getElem?_cons_succ,List.getElem?_cons_zero,Option.some.injEq] at e0 e1 e2
  subst e0 e1 e2
  rfl

theorem toWord_any (f0 : Int) (f1 : Int) (f2 : Int) (w : World) :
  Calls Tryz.prog 141 #[.agg #[.int .i64 f0,.int .i64 f1,.int .i64 f2]] w fun e w' => e = .returned (.agg #[.int .i64 f0,.int .i64 f1,.int .i64 f2]) ∧ Ext w w':=by
 go_enter Tryz.func141,Tryz.ntmps141
 go_wp2
 refine bodyPost_ret (v:=.agg #[.int .i64 f0,.int .i64 f1,.int .i64 f2]) (by simp [results,Tryz.results141,go_sem]) rfl ⟨rfl,?_⟩
 repeat (first|exact Ext.refl' _|refine Ext.al ?_ _|refine Ext.sc ?_ (by simp) _)

theorem Tryz.infoWord : (Tryz.prog.info? 193).map (fun i => (i.zero,i.size,i.bytes)) = some (some (.agg #[.int .i64 0,.int .i64 0,.int .i64 0]),3,24):=by kernel_rfl

theorem toWordS_any (A : Option Addr) (n c : Nat) (l : List Word) (w : World) (S : Nat → Prop) (hs : Sl w S 3 A n (l.flatMap Word.cells)) (hm : n ≤ 1048576) :
  Calls Tryz.prog 87 #[.slice A n c] w fun e w' => ∃ B d,e = .returned (.slice B n d) ∧ w'.ownsRow w.heap.size 193 3 (.slice B n d) n (l.flatMap Word.cells) ∧ Ext w w':=by
 obtain ⟨w1,cs0,hmk,hown,-,hx1,hlt⟩:=made_row (P:=Tryz.prog) w 50 193 _ _ _ Tryz.underlying50 Tryz.infoWord n (by omega) (by unfold maxLen;omega)
 have HO:=hid hown
 have HX:=hid hx1
 clear hown hx1
 go_enter Tryz.func87,Tryz.ntmps87
 go_wp2
 go_loopw [4] (fun i wr => ∃ (k : Nat) (cs : List Value),k ≤ n ∧ i = .int .i64 k ∧ wr.ownsRow w.heap.size 193 3 (.slice (some ⟨w.heap.size,0,none⟩) n n) n cs ∧ Upto cs (l.flatMap Word.cells) (k * 3) ∧ Ext w wr) (fun i _ => n - (intOf i).toNat)
 case atStart => exact ⟨0,_,Nat.zero_le _,rfl,HO.out,Upto.zero _ _,HX.out⟩
 case round =>
  obtain ⟨k,cs,hk,rfl,ho,hu,hx⟩:=hrel
  by_cases hlt : k < n
  ·obtain ⟨b,o,s,rfl,hb,hxk,hc⟩:=(hs.ext hx).flat_at Word.cells_length (by omega) hlt
   obtain ⟨f0,f1,f2⟩:=s
   have c0:=hc 0 (by omega)
   have c1:=hc 1 (by omega)
   have c2:=hc 2 (by omega)
   simp only [Word.cells,List.getElem?_cons_zero,List.getElem?_cons_succ,Nat.add_zero] at c0 c1 c2
   have HX2:=hid hxk
   have HO2:=hid ho
   have HE2:=hid hx
   clear hxk ho hx hc
   go_wp2_with fail
   refine (toWord_any _ _ _ _).mono ?_
   rintro e w2 ⟨rfl,hx2⟩
   have ho2:=own_ext HO2.out hx2
   obtain ⟨g,hA,-,-,hg⟩:=own_flat ho2 hlt
   obtain rfl : w.heap.size = g:=addr_inj hA
   obtain ⟨v0,g0,e0⟩:=hg 0 (by omega)
   obtain ⟨v1,g1,e1⟩:=hg 1 (by omega)
   obtain ⟨v2,g2,e2⟩:=hg 2 (by omega)
   rw [Nat.add_zero] at g0 e0
   have HX3:=hid hx2
   have HO3:=hid ho2
   clear hx2 ho2 hg
   go_wp2
   go_roundw
   case rel =>
    have t0:=HO3.out.stored (k * 3) (.int .i64 f0)
    have t1:=t0.1.stored (k * 3 + 1) (.int .i64 f1)
    have t2:=t1.1.stored (k * 3 + 2) (.int .i64 f2)
    have hl3 : cs.length = n * 3:=HO3.out.1
    have q0:=flat_get Word.cells_length l k 0 _ HX2.out (by omega)
    have q1:=flat_get Word.cells_length l k 1 _ HX2.out (by omega)
    have q2:=flat_get Word.cells_length l k 2 _ HX2.out (by omega)
    refine ⟨k + 1,_,by omega,by go_num,t2.1,?_,?_⟩
    ·rw [show (k + 1) * 3 = k * 3 + 2 + 1 by omega]
     refine Upto.set1 (Upto.set1 (Upto.set1 hu (by omega) ?_) (by simp;omega) ?_) (by simp;omega) ?_
     ·exact q0
     ·exact q1
     ·exact q2
    ·exact ((((HE2.out.tr HX3.out)).sc (p:=⟨w.heap.size,_,none⟩) (Nat.le_refl _) _).sc (p:=⟨w.heap.size,_,none⟩) (Nat.le_refl _) _).sc (p:=⟨w.heap.size,_,none⟩) (Nat.le_refl _) _
   case measure => simp [intOf];omega
  ·go_wp2
   go_ret
   refine ⟨_,_,rfl,?_,hx⟩
   have : k = n:=by omega
   subst this
   rw [← hu.all ho.1 hs.1]
   exact ho

theorem eqWord_same (f0 : Int) (f1 : Int) (f2 : Int) (w : World) :
  Calls Tryz.prog 162 #[.agg #[.int .i64 f0,.int .i64 f1,.int .i64 f2],.agg #[.int .i64 f0,.int .i64 f1,.int .i64 f2]] w fun e w' => e = .returned (.bool true) ∧ Ext w w':=by
 go_enter Tryz.func162,Tryz.ntmps162
 go_wp2
 go_ret
 refine ⟨rfl,?_⟩
 repeat (first|exact Ext.refl' _|refine Ext.al ?_ _)

theorem eqWordS_same (A B : Option Addr) (n c d : Nat) (l : List Word) (w : World) (S T : Nat → Prop) (ha : Sl w S 3 A n (l.flatMap Word.cells)) (hb : Sl w T 3 B n (l.flatMap Word.cells)) (hm : n ≤ 9223372036854775807) :
  Calls Tryz.prog 103 #[.slice A n c,.slice B n d] w fun e w' => e = .returned (.bool true) ∧ Ext w w':=by
 go_enter Tryz.func103,Tryz.ntmps103
 go_wp2
 go_loopw [5] (fun i wr => ∃ (k : Nat),k ≤ n ∧ i = .int .i64 k ∧ Ext w wr) (fun i _ => n - (intOf i).toNat)
 case atStart => exact ⟨0,Nat.zero_le _,rfl,Ext.refl' _⟩
 case round =>
  obtain ⟨k,hk,rfl,hx⟩:=hrel
  by_cases hlt : k < n
  ·obtain ⟨b1,o1,s,rfl,hb1,hxk,hc1⟩:=(ha.ext hx).flat_at Word.cells_length (by omega) hlt
   obtain ⟨b2,o2,s',rfl,hb2,hyk,hc2⟩:=(hb.ext hx).flat_at Word.cells_length (by omega) hlt
   rw [hxk] at hyk
   injection hyk with hyk
   subst hyk
   obtain ⟨f0,f1,f2⟩:=s
   have c0:=hc1 0 (by omega)
   have c1:=hc1 1 (by omega)
   have c2:=hc1 2 (by omega)
   have d0:=hc2 0 (by omega)
   have d1:=hc2 1 (by omega)
   have d2:=hc2 2 (by omega)
   simp only [Word.cells,List.getElem?_cons_zero,List.getElem?_cons_succ,Nat.add_zero] at c0 c1 c2 d0 d1 d2
   have HE2:=hid hx
   clear hxk hx hc1 hc2
   go_wp2
   go_region_with (go_at_call 162;refine (eqWord_same _ _ _ _).mono ?_;rintro e w2 ⟨rfl,hx2⟩)
   all_goals
    have HE3:=hid hx2
    clear hx2
    go_wp2
    go_roundw
    case rel => exact ⟨k + 1,by omega,by go_num,HE2.out.tr (Ext.tr (Ext.dr (Ext.refl' _)) HE3.out)⟩
    case measure => simp [intOf];omega
  ·go_wp2
   go_ret
   exact ⟨rfl,hx⟩

theorem szWordS_any (A : Option Addr) (n c : Nat) (q : Int) (w : World) (hq : 0 ≤ q) (hq2 : q ≤ 1048576) (hn : n ≤ 9223372036854775807) :
  Calls Tryz.prog 75 #[.slice A n c,.int .i64 q] w fun e w' => e = .returned (.int .i64 (if (n : Int) ≤ q then q - n else -1)) ∧ w = w':=by
 by_cases h : (n : Int) ≤ q
 ·go_enter Tryz.func75,Tryz.ntmps75
  go_wp2
  go_ret
  exact ⟨by first|rfl|(simp;done)|simp [h],rfl⟩
 ·go_enter Tryz.func75,Tryz.ntmps75
  go_wp2
  go_ret
  exact ⟨by first|rfl|(simp;done)|simp [h],rfl⟩

/-! ### Hold -/
structure Hold where
 who_ : Int
 what_ : Int
 mode_ : Int
deriving Inhabited,DecidableEq
def Hold.cells (s : Hold) : List Value:=[.int .i64 s.who_,.int .i64 s.what_,.int .i64 s.mode_]
theorem Hold.cells_length (s : Hold) : s.cells.length = 3:=rfl
def Hold.good (s : Hold) : Prop:=(Lit.int .i64 s.who_).wf = true ∧ (Lit.int .i64 s.what_).wf = true ∧ (Lit.int .i64 s.mode_).wf = true
theorem opens_Hold : Opens Tryz.prog 168 (fun _ cs (s : Hold) => cs = s.cells ∧ s.good):=by
 intro H enc w base spare held fuel cs x h
 obtain ⟨hl,m,hf⟩:=trod_fields Tryz.underlying168 (by kernel_rfl) (by kernel_rfl) h
 obtain ⟨v0,y0,e0,t0⟩:=hf 0 _ rfl
 obtain ⟨f0,h0,-,g0⟩:=DataW.trod_int Tryz.underlying3 t0
 injection h0 with h0 _;subst h0
 obtain ⟨v1,y1,e1,t1⟩:=hf 1 _ rfl
 obtain ⟨f1,h1,-,g1⟩:=DataW.trod_int Tryz.underlying3 t1
 injection h1 with h1 _;subst h1
 obtain ⟨v2,y2,e2,t2⟩:=hf 2 _ rfl
 obtain ⟨f2,h2,-,g2⟩:=DataW.trod_int Tryz.underlying3 t2
 injection h2 with h2 _;subst h2
 refine ⟨⟨f0,f1,f2⟩,?_,⟨g0,g1,g2⟩⟩
 match cs,hl with
 | [c0,c1,c2],_ =>
  simp only [List.getElem?_cons_succ,List.getElem?_cons_zero,Option.some.injEq] at e0 e1 e2
  subst e0 e1 e2
  rfl

theorem toHold_any (f0 : Int) (f1 : Int) (f2 : Int) (w : World) :
  Calls Tryz.prog 88 #[.agg #[.int .i64 f0,.int .i64 f1,.int .i64 f2]] w fun e w' => e = .returned (.agg #[.int .i64 f0,.int .i64 f1,.int .i64 f2]) ∧ Ext w w':=by
 go_enter Tryz.func88,Tryz.ntmps88
 go_wp2
 refine bodyPost_ret (v:=.agg #[.int .i64 f0,.int .i64 f1,.int .i64 f2]) (by simp [results,Tryz.results88,go_sem]) rfl ⟨rfl,?_⟩
 repeat (first|exact Ext.refl' _|refine Ext.al ?_ _|refine Ext.sc ?_ (by simp) _)

theorem Tryz.infoHold : (Tryz.prog.info? 166).map (fun i => (i.zero,i.size,i.bytes)) = some (some (.agg #[.int .i64 0,.int .i64 0,.int .i64 0]),3,24):=by kernel_rfl

theorem toHoldS_any (A : Option Addr) (n c : Nat) (l : List Hold) (w : World) (S : Nat → Prop) (hs : Sl w S 3 A n (l.flatMap Hold.cells)) (hm : n ≤ 1048576) :
  Calls Tryz.prog 39 #[.slice A n c] w fun e w' => ∃ B d,e = .returned (.slice B n d) ∧ w'.ownsRow w.heap.size 166 3 (.slice B n d) n (l.flatMap Hold.cells) ∧ Ext w w':=by
 obtain ⟨w1,cs0,hmk,hown,-,hx1,hlt⟩:=made_row (P:=Tryz.prog) w 54 166 _ _ _ Tryz.underlying54 Tryz.infoHold n (by omega) (by unfold maxLen;omega)
 have HO:=hid hown
 have HX:=hid hx1
 clear hown hx1
 go_enter Tryz.func39,Tryz.ntmps39
 go_wp2
 go_loopw [4] (fun i wr => ∃ (k : Nat) (cs : List Value),k ≤ n ∧ i = .int .i64 k ∧ wr.ownsRow w.heap.size 166 3 (.slice (some ⟨w.heap.size,0,none⟩) n n) n cs ∧ Upto cs (l.flatMap Hold.cells) (k * 3) ∧ Ext w wr) (fun i _ => n - (intOf i).toNat)
 case atStart => exact ⟨0,_,Nat.zero_le _,rfl,HO.out,Upto.zero _ _,HX.out⟩
 case round =>
  obtain ⟨k,cs,hk,rfl,ho,hu,hx⟩:=hrel
  by_cases hlt : k < n
  ·obtain ⟨b,o,s,rfl,hb,hxk,hc⟩:=(hs.ext hx).flat_at Hold.cells_length (by omega) hlt
   obtain ⟨f0,f1,f2⟩:=s
   have c0:=hc 0 (by omega)
   have c1:=hc 1 (by omega)
   have c2:=hc 2 (by omega)
   simp only [Hold.cells,List.getElem?_cons_zero,List.getElem?_cons_succ,Nat.add_zero] at c0 c1 c2
   have HX2:=hid hxk
   have HO2:=hid ho
   have HE2:=hid hx
   clear hxk ho hx hc
   go_wp2_with fail
   refine (toHold_any _ _ _ _).mono ?_
   rintro e w2 ⟨rfl,hx2⟩
   have ho2:=own_ext HO2.out hx2
   obtain ⟨g,hA,-,-,hg⟩:=own_flat ho2 hlt
   obtain rfl : w.heap.size = g:=addr_inj hA
   obtain ⟨v0,g0,e0⟩:=hg 0 (by omega)
   obtain ⟨v1,g1,e1⟩:=hg 1 (by omega)
   obtain ⟨v2,g2,e2⟩:=hg 2 (by omega)
   rw [Nat.add_zero] at g0 e0
   have HX3:=hid hx2
   have HO3:=hid ho2
   clear hx2 ho2 hg
   go_wp2
   go_roundw
   case rel =>
    have t0:=HO3.out.stored (k * 3) (.int .i64 f0)
    have t1:=t0.1.stored (k * 3 + 1) (.int .i64 f1)
    have t2:=t1.1.stored (k * 3 + 2) (.int .i64 f2)
    have hl3 : cs.length = n * 3:=HO3.out.1
    have q0:=flat_get Hold.cells_length l k 0 _ HX2.out (by omega)
    have q1:=flat_get Hold.cells_length l k 1 _ HX2.out (by omega)
    have q2:=flat_get Hold.cells_length l k 2 _ HX2.out (by omega)
    refine ⟨k + 1,_,by omega,by go_num,t2.1,?_,?_⟩
    ·rw [show (k + 1) * 3 = k * 3 + 2 + 1 by omega]
     refine Upto.set1 (Upto.set1 (Upto.set1 hu (by omega) ?_) (by simp;omega) ?_) (by simp;omega) ?_
     ·exact q0
     ·exact q1
     ·exact q2
    ·exact ((((HE2.out.tr HX3.out)).sc (p:=⟨w.heap.size,_,none⟩) (Nat.le_refl _) _).sc (p:=⟨w.heap.size,_,none⟩) (Nat.le_refl _) _).sc (p:=⟨w.heap.size,_,none⟩) (Nat.le_refl _) _
   case measure => simp [intOf];omega
  ·go_wp2
   go_ret
   refine ⟨_,_,rfl,?_,hx⟩
   have : k = n:=by omega
   subst this
   rw [← hu.all ho.1 hs.1]
   exact ho

theorem eqHold_same (f0 : Int) (f1 : Int) (f2 : Int) (w : World) :
  Calls Tryz.prog 104 #[.agg #[.int .i64 f0,.int .i64 f1,.int .i64 f2],.agg #[.int .i64 f0,.int .i64 f1,.int .i64 f2]] w fun e w' => e = .returned (.bool true) ∧ Ext w w':=by
 go_enter Tryz.func104,Tryz.ntmps104
 go_wp2
 go_ret
 refine ⟨rfl,?_⟩
 repeat (first|exact Ext.refl' _|refine Ext.al ?_ _)

theorem eqHoldS_same (A B : Option Addr) (n c d : Nat) (l : List Hold) (w : World) (S T : Nat → Prop) (ha : Sl w S 3 A n (l.flatMap Hold.cells)) (hb : Sl w T 3 B n (l.flatMap Hold.cells)) (hm : n ≤ 9223372036854775807) :
  Calls Tryz.prog 51 #[.slice A n c,.slice B n d] w fun e w' => e = .returned (.bool true) ∧ Ext w w':=by
 go_enter Tryz.func51,Tryz.ntmps51
 go_wp2
 go_loopw [5] (fun i wr => ∃ (k : Nat),k ≤ n ∧ i = .int .i64 k ∧ Ext w wr) (fun i _ => n - (intOf i).toNat)
 case atStart => exact ⟨0,Nat.zero_le _,rfl,Ext.refl' _⟩
 case round =>
  obtain ⟨k,hk,rfl,hx⟩:=hrel
  by_cases hlt : k < n
  ·obtain ⟨b1,o1,s,rfl,hb1,hxk,hc1⟩:=(ha.ext hx).flat_at Hold.cells_length (by omega) hlt
   obtain ⟨b2,o2,s',rfl,hb2,hyk,hc2⟩:=(hb.ext hx).flat_at Hold.cells_length (by omega) hlt
   rw [hxk] at hyk
   injection hyk with hyk
   subst hyk
   obtain ⟨f0,f1,f2⟩:=s
   have c0:=hc1 0 (by omega)
   have c1:=hc1 1 (by omega)
   have c2:=hc1 2 (by omega)
   have d0:=hc2 0 (by omega)
   have d1:=hc2 1 (by omega)
   have d2:=hc2 2 (by omega)
   simp only [Hold.cells,List.getElem?_cons_zero,List.getElem?_cons_succ,Nat.add_zero] at c0 c1 c2 d0 d1 d2
   have HE2:=hid hx
   clear hxk hx hc1 hc2
   go_wp2
   go_region_with (go_at_call 104;refine (eqHold_same _ _ _ _).mono ?_;rintro e w2 ⟨rfl,hx2⟩)
   all_goals
    have HE3:=hid hx2
    clear hx2
    go_wp2
    go_roundw
    case rel => exact ⟨k + 1,by omega,by go_num,HE2.out.tr (Ext.tr (Ext.dr (Ext.refl' _)) HE3.out)⟩
    case measure => simp [intOf];omega
  ·go_wp2
   go_ret
   exact ⟨rfl,hx⟩

theorem szHoldS_any (A : Option Addr) (n c : Nat) (q : Int) (w : World) (hq : 0 ≤ q) (hq2 : q ≤ 1048576) (hn : n ≤ 9223372036854775807) :
  Calls Tryz.prog 28 #[.slice A n c,.int .i64 q] w fun e w' => e = .returned (.int .i64 (if (n : Int) ≤ q then q - n else -1)) ∧ w = w':=by
 by_cases h : (n : Int) ≤ q
 ·go_enter Tryz.func28,Tryz.ntmps28
  go_wp2
  go_ret
  exact ⟨by first|rfl|(simp;done)|simp [h],rfl⟩
 ·go_enter Tryz.func28,Tryz.ntmps28
  go_wp2
  go_ret
  exact ⟨by first|rfl|(simp;done)|simp [h],rfl⟩


end Go.Proofs.YtoegjiigaoanbaaGreat
