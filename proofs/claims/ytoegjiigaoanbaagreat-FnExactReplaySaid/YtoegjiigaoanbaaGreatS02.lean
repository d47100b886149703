/- The laws' helpers on KidRun. No condition but sizes. The laws' helpers on Family. No condition but sizes. Root: how it reads. No condition. Root: how it comes in. No condition. -/
import Derived.Test.YtoegjiigaoanbaaGreatS01
namespace Go.Proofs.YtoegjiigaoanbaaGreat
open Go.RowKit Go.Deep
set_option linter.unnecessarySimpa false
set_option maxHeartbeats 400000000
open Go.Lib (hid)

/-! ### KidRun -/
structure KidRun where
 phase_ : Int
 pc_ : Int
 since_ : Int
 tries_ : Int
 at_ : Int
 out_ : Int
 regs_ : List Int
 seen_ : List Entry
 writes_ : List Row
 marks_ : List KidMark
 busy_ : Bool
 probe_ : Probe
deriving Inhabited
def KidRun.wt (x : KidRun) : Nat:=x.regs_.length + x.seen_.length + x.writes_.length + wtl KidMark.wt x.marks_
def KidRun.R (w : World) (S : Nat → Prop) (cs : List Value) (x : KidRun) : Prop:=∃ (A0 : Option Addr) (n0 c0 : Nat) (A1 : Option Addr) (n1 c1 : Nat) (A2 : Option Addr) (n2 c2 : Nat) (A3 : Option Addr) (n3 c3 : Nat),cs = [.int .i64 x.phase_,.int .i64 x.pc_,.int .i64 x.since_,.int .i64 x.tries_,.int .i64 x.at_,.int .i64 x.out_,.slice A0 n0 c0,.slice A1 n1 c1,.slice A2 n2 c2,.slice A3 n3 c3,.bool x.busy_,.int .i64 x.probe_.cell_,.int .i64 x.probe_.phase_,.int .i64 x.probe_.ver_,.int .i64 x.probe_.val_] ∧ (n0 ≤ c0 ∧ n0 ≤ 9223372036854775807 ∧ Sl w S 1 A0 n0 (ints x.regs_)) ∧ (n1 ≤ c1 ∧ n1 ≤ 9223372036854775807 ∧ Sl w S 3 A1 n1 (x.seen_.flatMap Entry.cells)) ∧ (n2 ≤ c2 ∧ n2 ≤ 9223372036854775807 ∧ Sl w S 2 A2 n2 (x.writes_.flatMap Row.cells)) ∧ (n3 ≤ c3 ∧ n3 ≤ 9223372036854775807 ∧ SlR KidMark.R 3 w S A3 n3 x.marks_)
def KidRun.W (w : World) (S : Nat → Prop) (cs : List Value) (x : KidRun) : Prop:=∃ (A0 : Option Addr) (n0 c0 : Nat) (A1 : Option Addr) (n1 c1 : Nat) (A2 : Option Addr) (n2 c2 : Nat) (A3 : Option Addr) (n3 c3 : Nat) (lab : Nat → Nat),cs = [.int .i64 x.phase_,.int .i64 x.pc_,.int .i64 x.since_,.int .i64 x.tries_,.int .i64 x.at_,.int .i64 x.out_,.slice A0 n0 c0,.slice A1 n1 c1,.slice A2 n2 c2,.slice A3 n3 c3,.bool x.busy_,.int .i64 x.probe_.cell_,.int .i64 x.probe_.phase_,.int .i64 x.probe_.ver_,.int .i64 x.probe_.val_] ∧ (n0 ≤ c0 ∧ n0 ≤ 9223372036854775807 ∧ OwS w (fun g => S g ∧ lab g = 0) 3 1 A0 n0 c0 (ints x.regs_)) ∧ (n1 ≤ c1 ∧ n1 ≤ 9223372036854775807 ∧ OwS w (fun g => S g ∧ lab g = 1) 245 3 A1 n1 c1 (x.seen_.flatMap Entry.cells)) ∧ (n2 ≤ c2 ∧ n2 ≤ 9223372036854775807 ∧ OwS w (fun g => S g ∧ lab g = 2) 239 2 A2 n2 c2 (x.writes_.flatMap Row.cells)) ∧ (n3 ≤ c3 ∧ n3 ≤ 9223372036854775807 ∧ SlW KidMark.W 297 3 w (fun g => S g ∧ lab g = 3) A3 n3 c3 x.marks_)
theorem KidRun.R_good : Good KidRun.R 15:=⟨fun {_ _ _ _} h => by
  obtain ⟨A0,n0,c0,A1,n1,c1,A2,n2,c2,A3,n3,c3,rfl,⟨kh0,mh0,h0⟩,⟨kh1,mh1,h1⟩,⟨kh2,mh2,h2⟩,⟨kh3,mh3,h3⟩⟩:=h
  rfl,
 fun {_ _ _ _ _ _} h k hd => by
  obtain ⟨A0,n0,c0,A1,n1,c1,A2,n2,c2,A3,n3,c3,rfl,⟨kh0,mh0,h0⟩,⟨kh1,mh1,h1⟩,⟨kh2,mh2,h2⟩,⟨kh3,mh3,h3⟩⟩:=h
  exact ⟨_,_,_,_,_,_,_,_,_,_,_,_,rfl,⟨kh0,mh0,h0.chg k hd⟩,⟨kh1,mh1,h1.chg k hd⟩,⟨kh2,mh2,h2.chg k hd⟩,⟨kh3,mh3,h3.chg KidMark.R_good k hd⟩⟩,
 fun {_ _ _ _ _} h hs => by
  obtain ⟨A0,n0,c0,A1,n1,c1,A2,n2,c2,A3,n3,c3,rfl,⟨kh0,mh0,h0⟩,⟨kh1,mh1,h1⟩,⟨kh2,mh2,h2⟩,⟨kh3,mh3,h3⟩⟩:=h
  exact ⟨_,_,_,_,_,_,_,_,_,_,_,_,rfl,⟨kh0,mh0,h0.mono hs⟩,⟨kh1,mh1,h1.mono hs⟩,⟨kh2,mh2,h2.mono hs⟩,⟨kh3,mh3,h3.mono KidMark.R_good hs⟩⟩⟩
theorem KidRun.W_good : Good KidRun.W 15:=⟨fun {_ _ _ _} h => by
  obtain ⟨A0,n0,c0,A1,n1,c1,A2,n2,c2,A3,n3,c3,lab,rfl,⟨kh0,mh0,h0⟩,⟨kh1,mh1,h1⟩,⟨kh2,mh2,h2⟩,⟨kh3,mh3,h3⟩⟩:=h
  rfl,
 fun {_ _ _ _ _ _} h k hd => by
  obtain ⟨A0,n0,c0,A1,n1,c1,A2,n2,c2,A3,n3,c3,lab,rfl,⟨kh0,mh0,h0⟩,⟨kh1,mh1,h1⟩,⟨kh2,mh2,h2⟩,⟨kh3,mh3,h3⟩⟩:=h
  exact ⟨_,_,_,_,_,_,_,_,_,_,_,_,lab,rfl,⟨kh0,mh0,h0.chg k fun i hi => hd i hi.1⟩,⟨kh1,mh1,h1.chg k fun i hi => hd i hi.1⟩,⟨kh2,mh2,h2.chg k fun i hi => hd i hi.1⟩,⟨kh3,mh3,h3.chg KidMark.W_good k fun i hi => hd i hi.1⟩⟩,
 fun {_ _ _ _ _} h hs => by
  obtain ⟨A0,n0,c0,A1,n1,c1,A2,n2,c2,A3,n3,c3,lab,rfl,⟨kh0,mh0,h0⟩,⟨kh1,mh1,h1⟩,⟨kh2,mh2,h2⟩,⟨kh3,mh3,h3⟩⟩:=h
  exact ⟨_,_,_,_,_,_,_,_,_,_,_,_,lab,rfl,⟨kh0,mh0,h0.mono fun i _ hi => ⟨hs i hi.1,hi.2⟩⟩,⟨kh1,mh1,h1.mono fun i _ hi => ⟨hs i hi.1,hi.2⟩⟩,⟨kh2,mh2,h2.mono fun i _ hi => ⟨hs i hi.1,hi.2⟩⟩,⟨kh3,mh3,h3.mono KidMark.W_good fun i hi => ⟨hs i hi.1,hi.2⟩⟩⟩⟩
theorem KidRun.W_R {w : World} {S : Nat → Prop} {cs : List Value} {x : KidRun} (h : KidRun.W w S cs x) : KidRun.R w S cs x:=by
 obtain ⟨A0,n0,c0,A1,n1,c1,A2,n2,c2,A3,n3,c3,lab,rfl,⟨kh0,mh0,h0⟩,⟨kh1,mh1,h1⟩,⟨kh2,mh2,h2⟩,⟨kh3,mh3,h3⟩⟩:=h
 exact ⟨_,_,_,_,_,_,_,_,_,_,_,_,rfl,⟨kh0,mh0,h0.sl.mono fun i hi => hi.1⟩,⟨kh1,mh1,h1.sl.mono fun i hi => hi.1⟩,⟨kh2,mh2,h2.sl.mono fun i hi => hi.1⟩,⟨kh3,mh3,(h3.slr KidMark.R_good KidMark.W_R).mono KidMark.R_good fun i hi => hi.1⟩⟩
theorem KidRun.R_cells {w : World} {S : Nat → Prop} {cs : List Value} {x : KidRun} (h : KidRun.R w S cs x) : ∃ (A0 : Option Addr) (n0 c0 : Nat) (A1 : Option Addr) (n1 c1 : Nat) (A2 : Option Addr) (n2 c2 : Nat) (A3 : Option Addr) (n3 c3 : Nat),cs = [.int .i64 x.phase_,.int .i64 x.pc_,.int .i64 x.since_,.int .i64 x.tries_,.int .i64 x.at_,.int .i64 x.out_,.slice A0 n0 c0,.slice A1 n1 c1,.slice A2 n2 c2,.slice A3 n3 c3,.bool x.busy_,.int .i64 x.probe_.cell_,.int .i64 x.probe_.phase_,.int .i64 x.probe_.ver_,.int .i64 x.probe_.val_]:=by
 obtain ⟨A0,n0,c0,A1,n1,c1,A2,n2,c2,A3,n3,c3,rfl,⟨kh0,mh0,h0⟩,⟨kh1,mh1,h1⟩,⟨kh2,mh2,h2⟩,⟨kh3,mh3,h3⟩⟩:=h
 exact ⟨A0,n0,c0,A1,n1,c1,A2,n2,c2,A3,n3,c3,rfl⟩
theorem KidRun.W_cells {w : World} {S : Nat → Prop} {cs : List Value} {x : KidRun} (h : KidRun.W w S cs x) : ∃ (A0 : Option Addr) (n0 c0 : Nat) (A1 : Option Addr) (n1 c1 : Nat) (A2 : Option Addr) (n2 c2 : Nat) (A3 : Option Addr) (n3 c3 : Nat),cs = [.int .i64 x.phase_,.int .i64 x.pc_,.int .i64 x.since_,.int .i64 x.tries_,.int .i64 x.at_,.int .i64 x.out_,.slice A0 n0 c0,.slice A1 n1 c1,.slice A2 n2 c2,.slice A3 n3 c3,.bool x.busy_,.int .i64 x.probe_.cell_,.int .i64 x.probe_.phase_,.int .i64 x.probe_.ver_,.int .i64 x.probe_.val_]:=by
 obtain ⟨A0,n0,c0,A1,n1,c1,A2,n2,c2,A3,n3,c3,lab,rfl,⟨kh0,mh0,h0⟩,⟨kh1,mh1,h1⟩,⟨kh2,mh2,h2⟩,⟨kh3,mh3,h3⟩⟩:=h
 exact ⟨A0,n0,c0,A1,n1,c1,A2,n2,c2,A3,n3,c3,rfl⟩
theorem KidRun.size_info : (Tryz.prog.info? 248).map (·.size) = some 15:=by kernel_rfl
theorem KidRun.size_laws : (Tryz.prog.info? 301).map (·.size) = some 15:=by kernel_rfl
theorem KidRun.W_one {w : World} {S : Nat → Prop} {cs : List Value} {x : KidRun} (h : KidRun.W w S cs x) : ∀ v ∈ cs,v.oneCell' = true:=by
 obtain ⟨A0,n0,c0,A1,n1,c1,A2,n2,c2,A3,n3,c3,rfl⟩:=KidRun.W_cells h
 simp [Value.oneCell']
set_option maxRecDepth 8000 in
theorem opens_KidRun : Opens Tryz.prog 301 (fun w cs (x : KidRun) => KidRun.R w (fun _ => True) cs x):=by
 intro H enc w base spare held fuel cs x h
 obtain ⟨xs,n,_,_,hlen,hxl,hf⟩:=DataW.trod_struct Tryz.underlying301 h
 rw [show Tryz.prog.cellsOf 301 = 15 from by kernel_rfl] at hlen
 have hxl' : xs.length = 12:=hxl
 have h0 : DataW.trod enc Tryz.prog w base spare held n 3 ((cs.drop 0).take (Tryz.prog.cellsOf 3)) = xs[0]?:=hf 0 _ rfl
 rw [show Tryz.prog.cellsOf 3 = 1 from by kernel_rfl,List.getElem?_eq_getElem (show 0 < xs.length by omega)] at h0
 obtain ⟨f0,e0,-,-⟩:=DataW.trod_int Tryz.underlying3 h0
 have h1 : DataW.trod enc Tryz.prog w base spare held n 3 ((cs.drop 1).take (Tryz.prog.cellsOf 3)) = xs[1]?:=hf 1 _ rfl
 rw [show Tryz.prog.cellsOf 3 = 1 from by kernel_rfl,List.getElem?_eq_getElem (show 1 < xs.length by omega)] at h1
 obtain ⟨f1,e1,-,-⟩:=DataW.trod_int Tryz.underlying3 h1
 have h2 : DataW.trod enc Tryz.prog w base spare held n 3 ((cs.drop 2).take (Tryz.prog.cellsOf 3)) = xs[2]?:=hf 2 _ rfl
 rw [show Tryz.prog.cellsOf 3 = 1 from by kernel_rfl,List.getElem?_eq_getElem (show 2 < xs.length by omega)] at h2
 obtain ⟨f2,e2,-,-⟩:=DataW.trod_int Tryz.underlying3 h2
 have h3 : DataW.trod enc Tryz.prog w base spare held n 3 ((cs.drop 3).take (Tryz.prog.cellsOf 3)) = xs[3]?:=hf 3 _ rfl
 rw [show Tryz.prog.cellsOf 3 = 1 from by kernel_rfl,List.getElem?_eq_getElem (show 3 < xs.length by omega)] at h3
 obtain ⟨f3,e3,-,-⟩:=DataW.trod_int Tryz.underlying3 h3
 have h4 : DataW.trod enc Tryz.prog w base spare held n 3 ((cs.drop 4).take (Tryz.prog.cellsOf 3)) = xs[4]?:=hf 4 _ rfl
 rw [show Tryz.prog.cellsOf 3 = 1 from by kernel_rfl,List.getElem?_eq_getElem (show 4 < xs.length by omega)] at h4
 obtain ⟨f4,e4,-,-⟩:=DataW.trod_int Tryz.underlying3 h4
 have h5 : DataW.trod enc Tryz.prog w base spare held n 3 ((cs.drop 5).take (Tryz.prog.cellsOf 3)) = xs[5]?:=hf 5 _ rfl
 rw [show Tryz.prog.cellsOf 3 = 1 from by kernel_rfl,List.getElem?_eq_getElem (show 5 < xs.length by omega)] at h5
 obtain ⟨f5,e5,-,-⟩:=DataW.trod_int Tryz.underlying3 h5
 have h6 : DataW.trod enc Tryz.prog w base spare held n 22 ((cs.drop 6).take (Tryz.prog.cellsOf 22)) = xs[6]?:=hf 6 _ rfl
 rw [show Tryz.prog.cellsOf 22 = 1 from by kernel_rfl,List.getElem?_eq_getElem (show 6 < xs.length by omega)] at h6
 obtain ⟨f6,A6,n6,c6,e6,g6,g6',-,-,s6⟩:=opens_ints Tryz.underlying22 Tryz.underlying3 (by kernel_rfl) H enc w base spare held n _ _ h6
 have h7 : DataW.trod enc Tryz.prog w base spare held n 144 ((cs.drop 7).take (Tryz.prog.cellsOf 144)) = xs[7]?:=hf 7 _ rfl
 rw [show Tryz.prog.cellsOf 144 = 1 from by kernel_rfl,List.getElem?_eq_getElem (show 7 < xs.length by omega)] at h7
 obtain ⟨f7,A7,n7,c7,e7,g7,g7',-,-,s7⟩:=opens_flat Tryz.underlying144 (by kernel_rfl) (by omega) Entry.cells_length opens_Entry H enc w base spare held n _ _ h7
 have h8 : DataW.trod enc Tryz.prog w base spare held n 138 ((cs.drop 8).take (Tryz.prog.cellsOf 138)) = xs[8]?:=hf 8 _ rfl
 rw [show Tryz.prog.cellsOf 138 = 1 from by kernel_rfl,List.getElem?_eq_getElem (show 8 < xs.length by omega)] at h8
 obtain ⟨f8,A8,n8,c8,e8,g8,g8',-,-,s8⟩:=opens_flat Tryz.underlying138 (by kernel_rfl) (by omega) Row.cells_length opens_Row H enc w base spare held n _ _ h8
 have h9 : DataW.trod enc Tryz.prog w base spare held n 299 ((cs.drop 9).take (Tryz.prog.cellsOf 299)) = xs[9]?:=hf 9 _ rfl
 rw [show Tryz.prog.cellsOf 299 = 1 from by kernel_rfl,List.getElem?_eq_getElem (show 9 < xs.length by omega)] at h9
 obtain ⟨f9,A9,n9,c9,e9,g9,g9',s9⟩:=opens_deep KidMark.R_good Tryz.underlying299 (by kernel_rfl) (by omega) opens_KidMark H enc w base spare held n _ _ h9
 have h10 : DataW.trod enc Tryz.prog w base spare held n 4 ((cs.drop 10).take (Tryz.prog.cellsOf 4)) = xs[10]?:=hf 10 _ rfl
 rw [show Tryz.prog.cellsOf 4 = 1 from by kernel_rfl,List.getElem?_eq_getElem (show 10 < xs.length by omega)] at h10
 obtain ⟨f10,e10,-⟩:=DataW.trod_bool Tryz.underlying4 h10
 have h11 : DataW.trod enc Tryz.prog w base spare held n 141 ((cs.drop 11).take (Tryz.prog.cellsOf 141)) = xs[11]?:=hf 11 _ rfl
 rw [show Tryz.prog.cellsOf 141 = 4 from by kernel_rfl,List.getElem?_eq_getElem (show 11 < xs.length by omega)] at h11
 obtain ⟨f11,e11,-⟩:=opens_Probe H enc w base spare held n _ _ h11
 simp only [Probe.cells] at e11
 clear h0 h1 h2 h3 h4 h5 h6 h7 h8 h9 h10 h11 hf h hxl hxl'
 match cs,hlen with
 | [q0,q1,q2,q3,q4,q5,q6,q7,q8,q9,q10,q11,q12,q13,q14],_ =>
  simp only [List.drop_succ_cons,List.drop_zero,List.take_succ_cons,List.take_zero,List.cons.injEq,and_true] at e0 e1 e2 e3 e4 e5 e6 e7 e8 e9 e10 e11
  subst e0
  subst e1
  subst e2
  subst e3
  subst e4
  subst e5
  subst e6
  subst e7
  subst e8
  subst e9
  subst e10
  obtain ⟨e11_0,e11_1,e11_2,e11_3⟩:=e11
  subst e11_0 e11_1 e11_2 e11_3
  exact ⟨⟨f0,f1,f2,f3,f4,f5,f6,f7,f8,f9,f10,f11⟩,_,_,_,_,_,_,_,_,_,_,_,_,rfl,⟨g6,Nat.le_trans g6 g6',s6⟩,⟨g7,Nat.le_trans g7 g7',s7⟩,⟨g8,Nat.le_trans g8 g8',s8⟩,⟨g9,Nat.le_trans g9 g9',s9⟩⟩
set_option maxRecDepth 8000 in
theorem szKidRun_any (x : KidRun) (cs : List Value) (q : Int) (w : World) (S : Nat → Prop) (h : KidRun.R w S cs x) (hq0 : 0 ≤ q) (hq2 : q ≤ 1048576) :
  Calls Tryz.prog 217 #[.agg cs.toArray,.int .i64 q] w fun e w' => ∃ r : Int,e = .returned (.int .i64 r) ∧ Left r q (KidRun.wt x) ∧ Ext w w':=by
 obtain ⟨A0,n0,c0,A1,n1,c1,A2,n2,c2,A3,n3,c3,rfl,⟨kh0,mh0,h0⟩,⟨kh1,mh1,h1⟩,⟨kh2,mh2,h2⟩,⟨kh3,mh3,h3⟩⟩:=h
 have H0:=hid h0
 have H1:=hid h1
 have H2:=hid h2
 have H3:=hid h3
 clear h0 h1 h2 h3
 show Calls Tryz.prog _ #[.agg #[.int .i64 x.phase_,.int .i64 x.pc_,.int .i64 x.since_,.int .i64 x.tries_,.int .i64 x.at_,.int .i64 x.out_,.slice A0 n0 c0,.slice A1 n1 c1,.slice A2 n2 c2,.slice A3 n3 c3,.bool x.busy_,.int .i64 x.probe_.cell_,.int .i64 x.probe_.phase_,.int .i64 x.probe_.ver_,.int .i64 x.probe_.val_],.int .i64 q] w _
 go_enter Tryz.func217,Tryz.ntmps217
 go_wp2_with fail
 have L0:=hid (H0.out.len)
 refine (szIntS_any _ _ _ (q) _ hq0 hq2 mh0).mono ?_
 rintro e w1 ⟨rfl,xq⟩
 have x1:=Ext.of_eq xq
 clear xq
 have Q0 : Hid (Left (if (n0 : Int) ≤ q then q - n0 else -1) q (x.regs_.length)):=by show Left _ _ _;rw [L0.out];exact Left.of_if
 generalize (if (n0 : Int) ≤ q then q - n0 else -1) = r0 at Q0
 have X1 : Ext w w1:=Ext.tr (((Ext.refl' w).al _)) x1
 have b1 : Hid (Bx w1 w.heap.size 301 #[.int .i64 x.phase_,.int .i64 x.pc_,.int .i64 x.since_,.int .i64 x.tries_,.int .i64 x.at_,.int .i64 x.out_,.slice A0 n0 c0,.slice A1 n1 c1,.slice A2 n2 c2,.slice A3 n3 c3,.bool x.busy_,.int .i64 x.probe_.cell_,.int .i64 x.probe_.phase_,.int .i64 x.probe_.ver_,.int .i64 x.probe_.val_]):=Bx.ext (Bx.new' _ _ _ rfl) x1
 clear x1
 have R0 : Hid (Left r0 q (x.regs_.length)):=Q0
 by_cases g0 : 0 ≤ r0
 rotate_left
 ·have e0 : r0 = -1:=by have a:=R0.out;unfold Left at a;omega
  subst e0
  clear g0
  go_wp2
  go_ret
  exact ⟨-1,rfl,by have a:=R0.out;unfold Left KidRun.wt at *;omega,X1⟩
 have u0 : r0 ≤ 1048576:=by have a:=R0.out;unfold Left at a;omega
 have ca1_7 : w1.cell? ⟨w.heap.size,7,none⟩ = some (.slice A1 n1 c1):=b1.out.cell 7
 go_wp2_with fail
 have L1:=hid (H1.out.flen Entry.cells_length (by omega))
 refine (szEntryS_any _ _ _ (r0) _ g0 u0 mh1).mono ?_
 rintro e w2 ⟨rfl,xq⟩
 have x2:=Ext.of_eq xq
 clear xq
 have Q1 : Hid (Left (if (n1 : Int) ≤ r0 then r0 - n1 else -1) r0 (x.seen_.length)):=by show Left _ _ _;rw [L1.out];exact Left.of_if
 generalize (if (n1 : Int) ≤ r0 then r0 - n1 else -1) = r1 at Q1
 have X2 : Ext w w2:=Ext.tr (X1) x2
 have b2 : Hid (Bx w2 w.heap.size 301 #[.int .i64 x.phase_,.int .i64 x.pc_,.int .i64 x.since_,.int .i64 x.tries_,.int .i64 x.at_,.int .i64 x.out_,.slice A0 n0 c0,.slice A1 n1 c1,.slice A2 n2 c2,.slice A3 n3 c3,.bool x.busy_,.int .i64 x.probe_.cell_,.int .i64 x.probe_.phase_,.int .i64 x.probe_.ver_,.int .i64 x.probe_.val_]):=Bx.ext (b1.out) x2
 clear x2
 have R1 : Hid (Left r1 q (x.regs_.length + x.seen_.length)):=by show Left _ _ _;have a:=R0.out;have b:=Q1.out;unfold Left at *;omega
 by_cases g1 : 0 ≤ r1
 rotate_left
 ·have e1 : r1 = -1:=by have a:=R1.out;unfold Left at a;omega
  subst e1
  clear g1
  go_wp2
  go_ret
  exact ⟨-1,rfl,by have a:=R1.out;unfold Left KidRun.wt at *;omega,X2⟩
 have u1 : r1 ≤ 1048576:=by have a:=R1.out;unfold Left at a;omega
 have ca2_8 : w2.cell? ⟨w.heap.size,8,none⟩ = some (.slice A2 n2 c2):=b2.out.cell 8
 go_wp2_with fail
 have L2:=hid (H2.out.flen Row.cells_length (by omega))
 refine (szRowS_any _ _ _ (r1) _ g1 u1 mh2).mono ?_
 rintro e w3 ⟨rfl,xq⟩
 have x3:=Ext.of_eq xq
 clear xq
 have Q2 : Hid (Left (if (n2 : Int) ≤ r1 then r1 - n2 else -1) r1 (x.writes_.length)):=by show Left _ _ _;rw [L2.out];exact Left.of_if
 generalize (if (n2 : Int) ≤ r1 then r1 - n2 else -1) = r2 at Q2
 have X3 : Ext w w3:=Ext.tr (X2) x3
 have b3 : Hid (Bx w3 w.heap.size 301 #[.int .i64 x.phase_,.int .i64 x.pc_,.int .i64 x.since_,.int .i64 x.tries_,.int .i64 x.at_,.int .i64 x.out_,.slice A0 n0 c0,.slice A1 n1 c1,.slice A2 n2 c2,.slice A3 n3 c3,.bool x.busy_,.int .i64 x.probe_.cell_,.int .i64 x.probe_.phase_,.int .i64 x.probe_.ver_,.int .i64 x.probe_.val_]):=Bx.ext (b2.out) x3
 clear x3
 have R2 : Hid (Left r2 q (x.regs_.length + x.seen_.length + x.writes_.length)):=by show Left _ _ _;have a:=R1.out;have b:=Q2.out;unfold Left at *;omega
 by_cases g2 : 0 ≤ r2
 rotate_left
 ·have e2 : r2 = -1:=by have a:=R2.out;unfold Left at a;omega
  subst e2
  clear g2
  go_wp2
  go_ret
  exact ⟨-1,rfl,by have a:=R2.out;unfold Left KidRun.wt at *;omega,X3⟩
 have u2 : r2 ≤ 1048576:=by have a:=R2.out;unfold Left at a;omega
 have ca3_9 : w3.cell? ⟨w.heap.size,9,none⟩ = some (.slice A3 n3 c3):=b3.out.cell 9
 go_wp2_with fail
 refine (szKidMarkS_any _ _ _ x.marks_ (r2) _ S (SlR.ext KidMark.R_good H3.out (X3)) mh3 g2 u2).mono ?_
 rintro e w4 ⟨r3,rfl,Q3,x4⟩
 replace Q3:=hid Q3
 have X4 : Ext w w4:=Ext.tr (X3) x4
 have b4 : Hid (Bx w4 w.heap.size 301 #[.int .i64 x.phase_,.int .i64 x.pc_,.int .i64 x.since_,.int .i64 x.tries_,.int .i64 x.at_,.int .i64 x.out_,.slice A0 n0 c0,.slice A1 n1 c1,.slice A2 n2 c2,.slice A3 n3 c3,.bool x.busy_,.int .i64 x.probe_.cell_,.int .i64 x.probe_.phase_,.int .i64 x.probe_.ver_,.int .i64 x.probe_.val_]):=Bx.ext (b3.out) x4
 clear x4
 have R3 : Hid (Left r3 q (x.regs_.length + x.seen_.length + x.writes_.length + wtl KidMark.wt x.marks_)):=by show Left _ _ _;have a:=R2.out;have b:=Q3.out;unfold Left at *;omega
 by_cases g3 : 0 ≤ r3
 rotate_left
 ·have e3 : r3 = -1:=by have a:=R3.out;unfold Left at a;omega
  subst e3
  clear g3
  go_wp2
  go_ret
  exact ⟨-1,rfl,by have a:=R3.out;unfold Left KidRun.wt at *;omega,X4⟩
 have u3 : r3 ≤ 1048576:=by have a:=R3.out;unfold Left at a;omega
 go_wp2
 go_ret
 exact ⟨r3,rfl,R3.out,X4⟩
set_option maxRecDepth 8000 in
theorem szKidRunS_any (A : Option Addr) (n c : Nat) (l : List KidRun) (q : Int) (w : World) (S : Nat → Prop) (hs : SlR KidRun.R 15 w S A n l) (hm : n ≤ 9223372036854775807) (hq0 : 0 ≤ q) (hq2 : q ≤ 1048576) :
  Calls Tryz.prog 184 #[.slice A n c,.int .i64 q] w fun e w' => ∃ r : Int,e = .returned (.int .i64 r) ∧ Left r q (wtl KidRun.wt l) ∧ Ext w w':=by
 have H:=hid hs.1
 have HL:=hid (wtl_len KidRun.wt l)
 by_cases hn : (n : Int) ≤ q
 rotate_left
 ·go_enter Tryz.func184,Tryz.ntmps184
  go_wp2
  go_ret
  exact ⟨-1,by first|rfl|(simp;done)|simp [hn],.inr ⟨by have a:=H.out;have b:=HL.out;omega,rfl⟩,Ext.refl' _⟩
 have HS:=hid hs
 clear hs
 go_enter Tryz.func184,Tryz.ntmps184
 go_wp2
 go_loopw [1,5] (fun u i wr => ∃ (k : Nat) (r : Int),k ≤ n ∧ i = .int .i64 k ∧ u = .int .i64 r ∧ 0 ≤ r ∧ r ≤ 1048576 ∧ Hid (r = q - n + k - wtl KidRun.wt (l.take k)) ∧ Ext w wr) (fun _ i _ => n - (intOf i).toNat)
 case atStart => exact ⟨0,q - n,Nat.zero_le _,rfl,rfl,by omega,by omega,by show _ = _;simp [wtl],Ext.refl' _⟩
 case round =>
  obtain ⟨k,r,hk,rfl,rfl,hr0,hr2,HR,hx⟩:=hrel
  have HX:=hid hx
  clear hx
  by_cases hlt : (k : Int) < (n : Int)
  rotate_left
  ·have e : Hid (k = n):=by show k = n;omega
   go_wp2
   go_ret
   exact ⟨r,rfl,.inl (by have h1:=HR.out;rw [e.out,← H.out,List.take_length] at h1;have h2:=H.out;omega),HX.out⟩
  obtain ⟨b,o,rfl⟩:=HS.out.addr (by omega)
  obtain ⟨x,row,hxk,-,hrw,hc⟩:=(HS.out.ext KidRun.R_good HX.out).at_ (k:=k) (by omega)
  have hrg:=hid (SlR.range KidRun.R_good hrw hc)
  have hln : Hid ((Tryz.prog.info? 301).map (·.size) = some row.length):=by show _ = _;rw [KidRun.R_good.len hrw];exact KidRun.size_laws
  have HRW:=hid hrw
  have HW:=hid (wtl_take KidRun.wt hxk)
  have HLE:=hid (wtl_le KidRun.wt l (k + 1))
  have HTL:=hid (wtl_len KidRun.wt (l.drop (k + 1)))
  clear hrw hc hxk
  go_wp2_with (refine wpList_load_mid rfl 301 _ rfl b (o + k * 15) rfl row _ hrg.out Tryz.underlying301 rfl hln.out ?_)
  refine (szKidRun_any x _ r _ S HRW.out hr0 hr2).mono ?_
  rintro e w2 ⟨r2,rfl,Q,x2⟩
  have X2:=hid (HX.out.tr x2)
  have HQ:=hid Q
  clear x2 Q
  by_cases g : 0 ≤ r2
  rotate_left
  ·have e : r2 = -1:=by have a:=HQ.out;unfold Left at a;omega
   subst e
   clear g
   go_wp2
   go_ret
   exact ⟨-1,rfl,.inr ⟨by have a:=HQ.out;have b:=HW.out;have c:=HR.out;have d:=HLE.out;have e:=H.out;have f:=wtl_rest KidRun.wt l (k + 1);unfold Left at a;omega,rfl⟩,X2.out⟩
  have g2 : r2 ≤ 1048576:=by have a:=HQ.out;unfold Left at a;omega
  go_wp2
  go_roundw
  case rel => exact ⟨k + 1,r2,by omega,by go_num,rfl,g,g2,by show _ = _;have a:=HQ.out;have b:=HW.out;have c:=HR.out;unfold Left at a;omega,X2.out⟩
  case measure => simp [intOf];omega
set_option maxRecDepth 8000 in
theorem toKidRun_any (x : KidRun) (cs : List Value) (w : World) (S : Nat → Prop) (h : KidRun.R w S cs x) (hw : KidRun.wt x ≤ 1048576) :
  Calls Tryz.prog 222 #[.agg cs.toArray] w fun e w' => ∃ cs',e = .returned (.agg cs'.toArray) ∧ KidRun.W w' (fun g => w.heap.size ≤ g ∧ g < w'.heap.size) cs' x ∧ Ext w w':=by
 obtain ⟨A0,n0,c0,A1,n1,c1,A2,n2,c2,A3,n3,c3,rfl,⟨kh0,mh0,h0⟩,⟨kh1,mh1,h1⟩,⟨kh2,mh2,h2⟩,⟨kh3,mh3,h3⟩⟩:=h
 unfold KidRun.wt at hw
 have l0:=h0.len
 have n_0 : n0 ≤ 1048576:=by omega
 have l1:=h1.flen Entry.cells_length (by omega)
 have n_1 : n1 ≤ 1048576:=by omega
 have l2:=h2.flen Row.cells_length (by omega)
 have n_2 : n2 ≤ 1048576:=by omega
 have l3:=h3.1
 have t3:=wtl_len KidMark.wt x.marks_
 have n_3 : n3 ≤ 1048576:=by omega
 have W_3 : wtl KidMark.wt x.marks_ ≤ 1048576:=by omega
 have H0:=hid h0
 have H1:=hid h1
 have H2:=hid h2
 have H3:=hid h3
 clear h0 h1 h2 h3 hw l0 l1 l2 l3 t3
 show Calls Tryz.prog _ #[.agg #[.int .i64 x.phase_,.int .i64 x.pc_,.int .i64 x.since_,.int .i64 x.tries_,.int .i64 x.at_,.int .i64 x.out_,.slice A0 n0 c0,.slice A1 n1 c1,.slice A2 n2 c2,.slice A3 n3 c3,.bool x.busy_,.int .i64 x.probe_.cell_,.int .i64 x.probe_.phase_,.int .i64 x.probe_.ver_,.int .i64 x.probe_.val_]] w _
 go_enter Tryz.func222,Tryz.ntmps222
 go_wp2_with fail
 refine (toIntS_any _ _ _ _ _ S (H0.out.ext ((((Ext.refl' w).al _).al _).al _)) n_0).mono ?_
 rintro e w1 ⟨B0,d0,rfl,o0,x1⟩
 have K0 : Hid (n0 ≤ d0):=own_cap o0
 replace o0:=hid (OwS.of_own o0)
 have z1 : w.heap.size + 3 ≤ w1.heap.size:=by have h:=x1.size;(try simp at h);omega
 have ba1 : Hid (Bx w1 (w.heap.size) 301 #[.int .i64 x.phase_,.int .i64 x.pc_,.int .i64 x.since_,.int .i64 x.tries_,.int .i64 x.at_,.int .i64 x.out_,.slice A0 n0 c0,.slice A1 n1 c1,.slice A2 n2 c2,.slice A3 n3 c3,.bool x.busy_,.int .i64 x.probe_.cell_,.int .i64 x.probe_.phase_,.int .i64 x.probe_.ver_,.int .i64 x.probe_.val_]):=Bx.ext (((Bx.new' _ _ _ rfl).al _).al _) x1
 have br1 : Hid (Bx w1 (w.heap.size + 1) 248 #[.int .i64 0,.int .i64 0,.int .i64 0,.int .i64 0,.int .i64 0,.int .i64 0,.slice none 0 0,.slice none 0 0,.slice none 0 0,.slice none 0 0,.bool false,.int .i64 0,.int .i64 0,.int .i64 0,.int .i64 0]):=Bx.ext ((Bx.new' _ _ _ (by simp)).al _) x1
 have bo1 : Hid (Bx w1 (w.heap.size + 2) 248 #[.int .i64 x.phase_,.int .i64 x.pc_,.int .i64 x.since_,.int .i64 x.tries_,.int .i64 x.at_,.int .i64 x.out_,.slice none 0 0,.slice none 0 0,.slice none 0 0,.slice none 0 0,.bool false,.int .i64 0,.int .i64 0,.int .i64 0,.int .i64 0]):=Bx.ext (Bx.new' _ _ _ (by simp)) x1
 have X1 : Ext w w1:=Ext.tr ((((Ext.refl' w).al _).al _).al _) x1
 replace o0 : Hid (OwS w1 (fun g => w.heap.size + 3 ≤ g ∧ g < w1.heap.size) 3 1 B0 n0 d0 (ints x.regs_)):=o0.out.mono (fun g _ hg => by have h1:=hg.1;have h2:=hg.2;constructor <;> (try simp at h1) <;> omega)
 clear x1
 have ca1_7 : w1.cell? ⟨w.heap.size,7,none⟩ = some (.slice A1 n1 c1):=ba1.out.cell 7
 have co1_6 : w1.cell? ⟨w.heap.size + 2,6,none⟩ = some (.slice none 0 0):=bo1.out.cell 6
 have fo1_6 : w1.frozen? ⟨w.heap.size + 2,6,none⟩ = false:=bo1.out.frozen 6
 go_wp2_with fail
 refine (toEntryS_any _ _ _ _ _ S (H1.out.ext ((X1).sc2 _)) n_1).mono ?_
 rintro e w2 ⟨B1,d1,rfl,o1,x2⟩
 have K1 : Hid (n1 ≤ d1):=own_cap o1
 replace o1:=hid (OwS.of_own o1)
 have z2 : w.heap.size + 3 ≤ w2.heap.size:=by have h:=x2.size;(try simp at h);omega
 have y2 : w1.heap.size ≤ w2.heap.size:=by have h:=x2.size;(try simp at h);exact h
 have ba2 : Hid (Bx w2 (w.heap.size) 301 #[.int .i64 x.phase_,.int .i64 x.pc_,.int .i64 x.since_,.int .i64 x.tries_,.int .i64 x.at_,.int .i64 x.out_,.slice A0 n0 c0,.slice A1 n1 c1,.slice A2 n2 c2,.slice A3 n3 c3,.bool x.busy_,.int .i64 x.probe_.cell_,.int .i64 x.probe_.phase_,.int .i64 x.probe_.ver_,.int .i64 x.probe_.val_]):=Bx.ext ((ba1.out).far2 _) x2
 have br2 : Hid (Bx w2 (w.heap.size + 1) 248 #[.int .i64 0,.int .i64 0,.int .i64 0,.int .i64 0,.int .i64 0,.int .i64 0,.slice none 0 0,.slice none 0 0,.slice none 0 0,.slice none 0 0,.bool false,.int .i64 0,.int .i64 0,.int .i64 0,.int .i64 0]):=Bx.ext ((br1.out).far2 _) x2
 have bo2 : Hid (Bx w2 (w.heap.size + 2) 248 #[.int .i64 x.phase_,.int .i64 x.pc_,.int .i64 x.since_,.int .i64 x.tries_,.int .i64 x.at_,.int .i64 x.out_,.slice B0 n0 d0,.slice none 0 0,.slice none 0 0,.slice none 0 0,.bool false,.int .i64 0,.int .i64 0,.int .i64 0,.int .i64 0]):=Bx.ext (((bo1.out).set_ _ _).cast (by first|rfl|simp only [List.setIfInBounds_toArray,List.set_cons_succ,List.set_cons_zero])) x2
 have X2 : Ext w w2:=Ext.tr ((X1).sc2 _) x2
 replace o0:=hid (o0.out.chg (Chg.trans ((Chg.refl (fun g => g = w.heap.size + 2) _).sc rfl _) (x2.chg _)) (fun g hg q => by have h1:=hg.1;have hq3 : g = w.heap.size + 2:=q;omega))
 replace o1 : Hid (OwS w2 (fun g => w1.heap.size ≤ g ∧ g < w2.heap.size) 245 3 B1 n1 d1 (x.seen_.flatMap Entry.cells)):=o1.out.mono (fun g _ hg => by have h1:=hg.1;have h2:=hg.2;constructor <;> (try simp at h1) <;> omega)
 clear x2
 have ca2_8 : w2.cell? ⟨w.heap.size,8,none⟩ = some (.slice A2 n2 c2):=ba2.out.cell 8
 have co2_7 : w2.cell? ⟨w.heap.size + 2,7,none⟩ = some (.slice none 0 0):=bo2.out.cell 7
 have fo2_7 : w2.frozen? ⟨w.heap.size + 2,7,none⟩ = false:=bo2.out.frozen 7
 go_wp2_with fail
 refine (toRowS_any _ _ _ _ _ S (H2.out.ext ((X2).sc2 _)) n_2).mono ?_
 rintro e w3 ⟨B2,d2,rfl,o2,x3⟩
 have K2 : Hid (n2 ≤ d2):=own_cap o2
 replace o2:=hid (OwS.of_own o2)
 have z3 : w.heap.size + 3 ≤ w3.heap.size:=by have h:=x3.size;(try simp at h);omega
 have y3 : w2.heap.size ≤ w3.heap.size:=by have h:=x3.size;(try simp at h);exact h
 have ba3 : Hid (Bx w3 (w.heap.size) 301 #[.int .i64 x.phase_,.int .i64 x.pc_,.int .i64 x.since_,.int .i64 x.tries_,.int .i64 x.at_,.int .i64 x.out_,.slice A0 n0 c0,.slice A1 n1 c1,.slice A2 n2 c2,.slice A3 n3 c3,.bool x.busy_,.int .i64 x.probe_.cell_,.int .i64 x.probe_.phase_,.int .i64 x.probe_.ver_,.int .i64 x.probe_.val_]):=Bx.ext ((ba2.out).far2 _) x3
 have br3 : Hid (Bx w3 (w.heap.size + 1) 248 #[.int .i64 0,.int .i64 0,.int .i64 0,.int .i64 0,.int .i64 0,.int .i64 0,.slice none 0 0,.slice none 0 0,.slice none 0 0,.slice none 0 0,.bool false,.int .i64 0,.int .i64 0,.int .i64 0,.int .i64 0]):=Bx.ext ((br2.out).far2 _) x3
 have bo3 : Hid (Bx w3 (w.heap.size + 2) 248 #[.int .i64 x.phase_,.int .i64 x.pc_,.int .i64 x.since_,.int .i64 x.tries_,.int .i64 x.at_,.int .i64 x.out_,.slice B0 n0 d0,.slice B1 n1 d1,.slice none 0 0,.slice none 0 0,.bool false,.int .i64 0,.int .i64 0,.int .i64 0,.int .i64 0]):=Bx.ext (((bo2.out).set_ _ _).cast (by first|rfl|simp only [List.setIfInBounds_toArray,List.set_cons_succ,List.set_cons_zero])) x3
 have X3 : Ext w w3:=Ext.tr ((X2).sc2 _) x3
 replace o0:=hid (o0.out.chg (Chg.trans ((Chg.refl (fun g => g = w.heap.size + 2) _).sc rfl _) (x3.chg _)) (fun g hg q => by have h1:=hg.1;have hq3 : g = w.heap.size + 2:=q;omega))
 replace o1:=hid (o1.out.chg (Chg.trans ((Chg.refl (fun g => g = w.heap.size + 2) _).sc rfl _) (x3.chg _)) (fun g hg q => by have h1:=hg.1;have hq3 : g = w.heap.size + 2:=q;omega))
 replace o2 : Hid (OwS w3 (fun g => w2.heap.size ≤ g ∧ g < w3.heap.size) 239 2 B2 n2 d2 (x.writes_.flatMap Row.cells)):=o2.out.mono (fun g _ hg => by have h1:=hg.1;have h2:=hg.2;constructor <;> (try simp at h1) <;> omega)
 clear x3
 have ca3_9 : w3.cell? ⟨w.heap.size,9,none⟩ = some (.slice A3 n3 c3):=ba3.out.cell 9
 have co3_8 : w3.cell? ⟨w.heap.size + 2,8,none⟩ = some (.slice none 0 0):=bo3.out.cell 8
 have fo3_8 : w3.frozen? ⟨w.heap.size + 2,8,none⟩ = false:=bo3.out.frozen 8
 go_wp2_with fail
 refine (toKidMarkS_any _ _ _ x.marks_ _ S (SlR.ext KidMark.R_good H3.out ((X3).sc2 _)) n_3 W_3).mono ?_
 rintro e w4 ⟨B3,d3,rfl,o3,x4⟩
 replace o3:=hid o3
 have z4 : w.heap.size + 3 ≤ w4.heap.size:=by have h:=x4.size;(try simp at h);omega
 have y4 : w3.heap.size ≤ w4.heap.size:=by have h:=x4.size;(try simp at h);exact h
 have ba4 : Hid (Bx w4 (w.heap.size) 301 #[.int .i64 x.phase_,.int .i64 x.pc_,.int .i64 x.since_,.int .i64 x.tries_,.int .i64 x.at_,.int .i64 x.out_,.slice A0 n0 c0,.slice A1 n1 c1,.slice A2 n2 c2,.slice A3 n3 c3,.bool x.busy_,.int .i64 x.probe_.cell_,.int .i64 x.probe_.phase_,.int .i64 x.probe_.ver_,.int .i64 x.probe_.val_]):=Bx.ext ((ba3.out).far2 _) x4
 have br4 : Hid (Bx w4 (w.heap.size + 1) 248 #[.int .i64 0,.int .i64 0,.int .i64 0,.int .i64 0,.int .i64 0,.int .i64 0,.slice none 0 0,.slice none 0 0,.slice none 0 0,.slice none 0 0,.bool false,.int .i64 0,.int .i64 0,.int .i64 0,.int .i64 0]):=Bx.ext ((br3.out).far2 _) x4
 have bo4 : Hid (Bx w4 (w.heap.size + 2) 248 #[.int .i64 x.phase_,.int .i64 x.pc_,.int .i64 x.since_,.int .i64 x.tries_,.int .i64 x.at_,.int .i64 x.out_,.slice B0 n0 d0,.slice B1 n1 d1,.slice B2 n2 d2,.slice none 0 0,.bool false,.int .i64 0,.int .i64 0,.int .i64 0,.int .i64 0]):=Bx.ext (((bo3.out).set_ _ _).cast (by first|rfl|simp only [List.setIfInBounds_toArray,List.set_cons_succ,List.set_cons_zero])) x4
 have X4 : Ext w w4:=Ext.tr ((X3).sc2 _) x4
 replace o0:=hid (o0.out.chg (Chg.trans ((Chg.refl (fun g => g = w.heap.size + 2) _).sc rfl _) (x4.chg _)) (fun g hg q => by have h1:=hg.1;have hq3 : g = w.heap.size + 2:=q;omega))
 replace o1:=hid (o1.out.chg (Chg.trans ((Chg.refl (fun g => g = w.heap.size + 2) _).sc rfl _) (x4.chg _)) (fun g hg q => by have h1:=hg.1;have hq3 : g = w.heap.size + 2:=q;omega))
 replace o2:=hid (o2.out.chg (Chg.trans ((Chg.refl (fun g => g = w.heap.size + 2) _).sc rfl _) (x4.chg _)) (fun g hg q => by have h1:=hg.1;have hq3 : g = w.heap.size + 2:=q;omega))
 replace o3 : Hid (SlW KidMark.W 297 3 w4 (fun g => w3.heap.size ≤ g ∧ g < w4.heap.size) B3 n3 d3 x.marks_):=o3.out.mono KidMark.W_good (fun g hg => by have h1:=hg.1;have h2:=hg.2;constructor <;> (try simp at h1) <;> omega)
 clear x4
 have ca4_10 : w4.cell? ⟨w.heap.size,10,none⟩ = some (.bool x.busy_):=ba4.out.cell 10
 have ca4_11 : w4.cell? ⟨w.heap.size,11,none⟩ = some (.int .i64 x.probe_.cell_):=ba4.out.cell 11
 have ca4_12 : w4.cell? ⟨w.heap.size,12,none⟩ = some (.int .i64 x.probe_.phase_):=ba4.out.cell 12
 have ca4_13 : w4.cell? ⟨w.heap.size,13,none⟩ = some (.int .i64 x.probe_.ver_):=ba4.out.cell 13
 have ca4_14 : w4.cell? ⟨w.heap.size,14,none⟩ = some (.int .i64 x.probe_.val_):=ba4.out.cell 14
 have co4_9 : w4.cell? ⟨w.heap.size + 2,9,none⟩ = some (.slice none 0 0):=bo4.out.cell 9
 have co4_10 : w4.cell? ⟨w.heap.size + 2,10,none⟩ = some (.bool false):=bo4.out.cell 10
 have fo4_9 : w4.frozen? ⟨w.heap.size + 2,9,none⟩ = false:=bo4.out.frozen 9
 have fo4_10 : w4.frozen? ⟨w.heap.size + 2,10,none⟩ = false:=bo4.out.frozen 10
 go_wp2_with fail
 refine (toProbe_any _ _ _ _ _).mono ?_
 rintro e w5 ⟨rfl,x5⟩
 have z5 : w.heap.size + 3 ≤ w5.heap.size:=by have h:=x5.size;(try simp at h);omega
 have y5 : w4.heap.size ≤ w5.heap.size:=by have h:=x5.size;(try simp at h);exact h
 have ba5 : Hid (Bx w5 (w.heap.size) 301 #[.int .i64 x.phase_,.int .i64 x.pc_,.int .i64 x.since_,.int .i64 x.tries_,.int .i64 x.at_,.int .i64 x.out_,.slice A0 n0 c0,.slice A1 n1 c1,.slice A2 n2 c2,.slice A3 n3 c3,.bool x.busy_,.int .i64 x.probe_.cell_,.int .i64 x.probe_.phase_,.int .i64 x.probe_.ver_,.int .i64 x.probe_.val_]):=Bx.ext (((ba4.out).far2 _).far2 _) x5
 have br5 : Hid (Bx w5 (w.heap.size + 1) 248 #[.int .i64 0,.int .i64 0,.int .i64 0,.int .i64 0,.int .i64 0,.int .i64 0,.slice none 0 0,.slice none 0 0,.slice none 0 0,.slice none 0 0,.bool false,.int .i64 0,.int .i64 0,.int .i64 0,.int .i64 0]):=Bx.ext (((br4.out).far2 _).far2 _) x5
 have bo5 : Hid (Bx w5 (w.heap.size + 2) 248 #[.int .i64 x.phase_,.int .i64 x.pc_,.int .i64 x.since_,.int .i64 x.tries_,.int .i64 x.at_,.int .i64 x.out_,.slice B0 n0 d0,.slice B1 n1 d1,.slice B2 n2 d2,.slice B3 n3 d3,.bool x.busy_,.int .i64 0,.int .i64 0,.int .i64 0,.int .i64 0]):=Bx.ext ((((bo4.out).set_ _ _).set_ _ _).cast (by first|rfl|simp only [List.setIfInBounds_toArray,List.set_cons_succ,List.set_cons_zero])) x5
 have X5 : Ext w w5:=Ext.tr (((X4).sc2 _).sc2 _) x5
 replace o0:=hid (o0.out.chg (Chg.trans (((Chg.refl (fun g => g = w.heap.size + 2) _).sc rfl _).sc rfl _) (x5.chg _)) (fun g hg q => by have h1:=hg.1;have hq3 : g = w.heap.size + 2:=q;omega))
 replace o1:=hid (o1.out.chg (Chg.trans (((Chg.refl (fun g => g = w.heap.size + 2) _).sc rfl _).sc rfl _) (x5.chg _)) (fun g hg q => by have h1:=hg.1;have hq3 : g = w.heap.size + 2:=q;omega))
 replace o2:=hid (o2.out.chg (Chg.trans (((Chg.refl (fun g => g = w.heap.size + 2) _).sc rfl _).sc rfl _) (x5.chg _)) (fun g hg q => by have h1:=hg.1;have hq3 : g = w.heap.size + 2:=q;omega))
 replace o3:=hid (o3.out.chg KidMark.W_good (Chg.trans (((Chg.refl (fun g => g = w.heap.size + 2) _).sc rfl _).sc rfl _) (x5.chg _)) (fun g hg q => by have h1:=hg.1;have hq3 : g = w.heap.size + 2:=q;omega))
 clear x5
 have co5_0 : w5.cell? ⟨w.heap.size + 2,0,none⟩ = some (.int .i64 x.phase_):=bo5.out.cell 0
 have co5_1 : w5.cell? ⟨w.heap.size + 2,1,none⟩ = some (.int .i64 x.pc_):=bo5.out.cell 1
 have co5_2 : w5.cell? ⟨w.heap.size + 2,2,none⟩ = some (.int .i64 x.since_):=bo5.out.cell 2
 have co5_3 : w5.cell? ⟨w.heap.size + 2,3,none⟩ = some (.int .i64 x.tries_):=bo5.out.cell 3
 have co5_4 : w5.cell? ⟨w.heap.size + 2,4,none⟩ = some (.int .i64 x.at_):=bo5.out.cell 4
 have co5_5 : w5.cell? ⟨w.heap.size + 2,5,none⟩ = some (.int .i64 x.out_):=bo5.out.cell 5
 have co5_6 : w5.cell? ⟨w.heap.size + 2,6,none⟩ = some (.slice B0 n0 d0):=bo5.out.cell 6
 have co5_7 : w5.cell? ⟨w.heap.size + 2,7,none⟩ = some (.slice B1 n1 d1):=bo5.out.cell 7
 have co5_8 : w5.cell? ⟨w.heap.size + 2,8,none⟩ = some (.slice B2 n2 d2):=bo5.out.cell 8
 have co5_9 : w5.cell? ⟨w.heap.size + 2,9,none⟩ = some (.slice B3 n3 d3):=bo5.out.cell 9
 have co5_10 : w5.cell? ⟨w.heap.size + 2,10,none⟩ = some (.bool x.busy_):=bo5.out.cell 10
 have co5_11 : w5.cell? ⟨w.heap.size + 2,11,none⟩ = some (.int .i64 0):=bo5.out.cell 11
 have co5_12 : w5.cell? ⟨w.heap.size + 2,12,none⟩ = some (.int .i64 0):=bo5.out.cell 12
 have co5_13 : w5.cell? ⟨w.heap.size + 2,13,none⟩ = some (.int .i64 0):=bo5.out.cell 13
 have co5_14 : w5.cell? ⟨w.heap.size + 2,14,none⟩ = some (.int .i64 0):=bo5.out.cell 14
 have fo5_11 : w5.frozen? ⟨w.heap.size + 2,11,none⟩ = false:=bo5.out.frozen 11
 have fo5_12 : w5.frozen? ⟨w.heap.size + 2,12,none⟩ = false:=bo5.out.frozen 12
 have fo5_13 : w5.frozen? ⟨w.heap.size + 2,13,none⟩ = false:=bo5.out.frozen 13
 have fo5_14 : w5.frozen? ⟨w.heap.size + 2,14,none⟩ = false:=bo5.out.frozen 14
 have cr5_0 : w5.cell? ⟨w.heap.size + 1,0,none⟩ = some (.int .i64 0):=br5.out.cell 0
 have fr5_0 : w5.frozen? ⟨w.heap.size + 1,0,none⟩ = false:=br5.out.frozen 0
 have cr5_1 : w5.cell? ⟨w.heap.size + 1,1,none⟩ = some (.int .i64 0):=br5.out.cell 1
 have fr5_1 : w5.frozen? ⟨w.heap.size + 1,1,none⟩ = false:=br5.out.frozen 1
 have cr5_2 : w5.cell? ⟨w.heap.size + 1,2,none⟩ = some (.int .i64 0):=br5.out.cell 2
 have fr5_2 : w5.frozen? ⟨w.heap.size + 1,2,none⟩ = false:=br5.out.frozen 2
 have cr5_3 : w5.cell? ⟨w.heap.size + 1,3,none⟩ = some (.int .i64 0):=br5.out.cell 3
 have fr5_3 : w5.frozen? ⟨w.heap.size + 1,3,none⟩ = false:=br5.out.frozen 3
 have cr5_4 : w5.cell? ⟨w.heap.size + 1,4,none⟩ = some (.int .i64 0):=br5.out.cell 4
 have fr5_4 : w5.frozen? ⟨w.heap.size + 1,4,none⟩ = false:=br5.out.frozen 4
 have cr5_5 : w5.cell? ⟨w.heap.size + 1,5,none⟩ = some (.int .i64 0):=br5.out.cell 5
 have fr5_5 : w5.frozen? ⟨w.heap.size + 1,5,none⟩ = false:=br5.out.frozen 5
 have cr5_6 : w5.cell? ⟨w.heap.size + 1,6,none⟩ = some (.slice none 0 0):=br5.out.cell 6
 have fr5_6 : w5.frozen? ⟨w.heap.size + 1,6,none⟩ = false:=br5.out.frozen 6
 have cr5_7 : w5.cell? ⟨w.heap.size + 1,7,none⟩ = some (.slice none 0 0):=br5.out.cell 7
 have fr5_7 : w5.frozen? ⟨w.heap.size + 1,7,none⟩ = false:=br5.out.frozen 7
 have cr5_8 : w5.cell? ⟨w.heap.size + 1,8,none⟩ = some (.slice none 0 0):=br5.out.cell 8
 have fr5_8 : w5.frozen? ⟨w.heap.size + 1,8,none⟩ = false:=br5.out.frozen 8
 have cr5_9 : w5.cell? ⟨w.heap.size + 1,9,none⟩ = some (.slice none 0 0):=br5.out.cell 9
 have fr5_9 : w5.frozen? ⟨w.heap.size + 1,9,none⟩ = false:=br5.out.frozen 9
 have cr5_10 : w5.cell? ⟨w.heap.size + 1,10,none⟩ = some (.bool false):=br5.out.cell 10
 have fr5_10 : w5.frozen? ⟨w.heap.size + 1,10,none⟩ = false:=br5.out.frozen 10
 have cr5_11 : w5.cell? ⟨w.heap.size + 1,11,none⟩ = some (.int .i64 0):=br5.out.cell 11
 have fr5_11 : w5.frozen? ⟨w.heap.size + 1,11,none⟩ = false:=br5.out.frozen 11
 have cr5_12 : w5.cell? ⟨w.heap.size + 1,12,none⟩ = some (.int .i64 0):=br5.out.cell 12
 have fr5_12 : w5.frozen? ⟨w.heap.size + 1,12,none⟩ = false:=br5.out.frozen 12
 have cr5_13 : w5.cell? ⟨w.heap.size + 1,13,none⟩ = some (.int .i64 0):=br5.out.cell 13
 have fr5_13 : w5.frozen? ⟨w.heap.size + 1,13,none⟩ = false:=br5.out.frozen 13
 have cr5_14 : w5.cell? ⟨w.heap.size + 1,14,none⟩ = some (.int .i64 0):=br5.out.cell 14
 have fr5_14 : w5.frozen? ⟨w.heap.size + 1,14,none⟩ = false:=br5.out.frozen 14
 go_wp2
 refine bodyPost_ret (v:=.agg #[.int .i64 x.phase_,.int .i64 x.pc_,.int .i64 x.since_,.int .i64 x.tries_,.int .i64 x.at_,.int .i64 x.out_,.slice B0 n0 d0,.slice B1 n1 d1,.slice B2 n2 d2,.slice B3 n3 d3,.bool x.busy_,.int .i64 x.probe_.cell_,.int .i64 x.probe_.phase_,.int .i64 x.probe_.ver_,.int .i64 x.probe_.val_]) (by simp [results,Tryz.results222,go_sem,cr5_0,cr5_1,cr5_2,cr5_3,cr5_4,cr5_5,cr5_6,cr5_7,cr5_8,cr5_9,cr5_10,cr5_11,cr5_12,cr5_13,cr5_14]) rfl ⟨[.int .i64 x.phase_,.int .i64 x.pc_,.int .i64 x.since_,.int .i64 x.tries_,.int .i64 x.at_,.int .i64 x.out_,.slice B0 n0 d0,.slice B1 n1 d1,.slice B2 n2 d2,.slice B3 n3 d3,.bool x.busy_,.int .i64 x.probe_.cell_,.int .i64 x.probe_.phase_,.int .i64 x.probe_.ver_,.int .i64 x.probe_.val_],rfl,?_,?_⟩
 ·refine (?_ : ∀ wz,Chg (fun g => g = w.heap.size + 2 ∨ g = w.heap.size + 1) w5 wz → KidRun.W wz (fun g => w.heap.size ≤ g ∧ g < wz.heap.size) [.int .i64 x.phase_,.int .i64 x.pc_,.int .i64 x.since_,.int .i64 x.tries_,.int .i64 x.at_,.int .i64 x.out_,.slice B0 n0 d0,.slice B1 n1 d1,.slice B2 n2 d2,.slice B3 n3 d3,.bool x.busy_,.int .i64 x.probe_.cell_,.int .i64 x.probe_.phase_,.int .i64 x.probe_.ver_,.int .i64 x.probe_.val_] x) _ ((((((((((((((((((((Chg.refl (fun g => g = w.heap.size + 2 ∨ g = w.heap.size + 1) _).sc2 _).sc2 _).sc2 _).sc2 _).sc2 _).sc2 _).sc2 _).sc2 _).sc2 _).sc2 _).sc2 _).sc2 _).sc2 _).sc2 _).sc2 _).sc2 _).sc2 _).sc2 _).sc2 _)
  intro wz cc
  have zz:=cc.size
  exact ⟨B0,n0,d0,B1,n1,d1,B2,n2,d2,B3,n3,d3,lb [w1.heap.size,w2.heap.size,w3.heap.size,w4.heap.size],rfl,⟨K0.out,mh0,(o0.out.chg cc (fun g hg q => by have h1:=hg.1;have hq3 : g = w.heap.size + 2 ∨ g = w.heap.size + 1:=q;omega)).mono (fun g _ hg => ⟨⟨by have h1:=hg.1;omega,by have h2:=hg.2;omega⟩,by have h1:=hg.1;have h2:=hg.2;exact lb_here (by omega)⟩)⟩,⟨K1.out,mh1,(o1.out.chg cc (fun g hg q => by have h1:=hg.1;have hq3 : g = w.heap.size + 2 ∨ g = w.heap.size + 1:=q;omega)).mono (fun g _ hg => ⟨⟨by have h1:=hg.1;omega,by have h2:=hg.2;omega⟩,by have h1:=hg.1;have h2:=hg.2;exact lb_next (by omega) (lb_here (by omega))⟩)⟩,⟨K2.out,mh2,(o2.out.chg cc (fun g hg q => by have h1:=hg.1;have hq3 : g = w.heap.size + 2 ∨ g = w.heap.size + 1:=q;omega)).mono (fun g _ hg => ⟨⟨by have h1:=hg.1;omega,by have h2:=hg.2;omega⟩,by have h1:=hg.1;have h2:=hg.2;exact lb_next (by omega) (lb_next (by omega) (lb_here (by omega)))⟩)⟩,⟨SlW.cap o3.out,mh3,(o3.out.chg KidMark.W_good cc (fun g hg q => by have h1:=hg.1;have hq3 : g = w.heap.size + 2 ∨ g = w.heap.size + 1:=q;omega)).mono KidMark.W_good (fun g hg => ⟨⟨by have h1:=hg.1;omega,by have h2:=hg.2;omega⟩,by have h1:=hg.1;have h2:=hg.2;exact lb_next (by omega) (lb_next (by omega) (lb_next (by omega) (lb_here (by omega))))⟩)⟩⟩
 ·exact (((((((((((((((((((X5).sc2 _).sc2 _).sc2 _).sc2 _).sc2 _).sc2 _).sc2 _).sc2 _).sc2 _).sc2 _).sc2 _).sc2 _).sc2 _).sc2 _).sc2 _).sc2 _).sc2 _).sc2 _).sc2 _
theorem Tryz.infoKidRun : (Tryz.prog.info? 248).map (fun i => (i.zero,i.size,i.bytes)) = some (some (.agg #[.int .i64 0,.int .i64 0,.int .i64 0,.int .i64 0,.int .i64 0,.int .i64 0,.slice none 0 0,.slice none 0 0,.slice none 0 0,.slice none 0 0,.bool false,.int .i64 0,.int .i64 0,.int .i64 0,.int .i64 0]),15,184):=by kernel_rfl
set_option maxRecDepth 8000 in
theorem toKidRunS_any (A : Option Addr) (n c : Nat) (l : List KidRun) (w : World) (S : Nat → Prop) (hs : SlR KidRun.R 15 w S A n l) (hm : n ≤ 1048576) (hw : wtl KidRun.wt l ≤ 1048576) :
  Calls Tryz.prog 196 #[.slice A n c] w fun e w' => ∃ B d,e = .returned (.slice B n d) ∧ SlW KidRun.W 248 15 w' (fun g => w.heap.size ≤ g ∧ g < w'.heap.size) B n d l ∧ Ext w w':=by
 obtain ⟨w1,cs0,hmk,hown,-,hx1,hlt⟩:=made_row (P:=Tryz.prog) w 93 248 _ _ _ Tryz.underlying93 Tryz.infoKidRun n (by omega) (by unfold maxLen;omega)
 have HO:=hid hown
 have HX:=hid hx1
 have HS:=hid hs
 have HLL:=hid hs.1
 have HW0:=hid hw
 clear hown hx1 hs hw
 go_enter Tryz.func196,Tryz.ntmps196
 go_wp2
 go_loopw [4] (fun i wr => ∃ (k : Nat) (cs : List Value) (lab : Nat → Nat),k ≤ n ∧ i = .int .i64 k ∧ Hid (wr.ownsRow w.heap.size 248 15 (.slice (some ⟨w.heap.size,0,none⟩) n n) n cs) ∧ Hid (WRows KidRun.W 15 wr (fun g => w.heap.size < g ∧ g < wr.heap.size) lab cs l k) ∧ Ext w wr) (fun i _ => n - (intOf i).toNat)
 case atStart => exact ⟨0,_,fun _ => 0,Nat.zero_le _,rfl,HO,WRows.zero _ _ _ _ _ _ _,HX.out⟩
 case round =>
  obtain ⟨k,cs,lab,hk,rfl,HO2,HU,hx⟩:=hrel
  have HX2:=hid hx
  clear hx
  by_cases hlt : (k : Int) < (n : Int)
  rotate_left
  ·have e : Hid (k = n):=by show k = n;omega
   go_wp2
   go_ret
   refine ⟨_,_,rfl,⟨HLL.out,cs,fun g => if w.heap.size < g then lab g else 0,⟨own_base HO2.out (Nat.zero_le _),fun g hg => ?_⟩,fun i hi x hxi => ?_⟩,HX2.out⟩
   ·have e : some w.heap.size = some g:=hg
    injection e with e
    subst e
    exact ⟨⟨Nat.le_refl _,(HO2.out.lt _ rfl).2⟩,if_neg (Nat.lt_irrefl _)⟩
   ·obtain ⟨row,hr,hj⟩:=HU.out i (by have h:=e.out;omega) x hxi
    exact ⟨row,KidRun.W_good.mono hr fun g hg => ⟨⟨by have h:=hg.1.1;omega,hg.1.2⟩,(if_pos hg.1.1).trans hg.2⟩,hj⟩
  obtain ⟨b,o,rfl⟩:=HS.out.addr (by omega)
  obtain ⟨x,row,hxk,-,hrw,hc⟩:=(HS.out.ext KidRun.R_good HX2.out).at_ (k:=k) (by omega)
  have hrg:=hid (SlR.range KidRun.R_good hrw hc)
  have hln : Hid ((Tryz.prog.info? 301).map (·.size) = some row.length):=by show _ = _;rw [KidRun.R_good.len hrw];exact KidRun.size_laws
  have HRW:=hid hrw
  have HXK:=hid hxk
  have HKW:=hid (Nat.le_trans (wtl_at KidRun.wt hxk) HW0.out)
  have HLT : Hid (k < n):=by show k < n;omega
  clear hrw hc hxk
  go_wp2_with (refine wpList_load_mid rfl 301 _ rfl b (o + k * 15) rfl row _ hrg.out Tryz.underlying301 rfl hln.out ?_)
  refine (toKidRun_any x _ _ S HRW.out HKW.out).mono ?_
  rintro e w2 ⟨cv,rfl,hW,hx2⟩
  have HWW:=hid hW
  have HO3:=hid (own_ext HO2.out hx2)
  have z0 : w.heap.size < wr.heap.size:=(HO2.out.lt _ rfl).2
  have z1 : wr.heap.size ≤ w2.heap.size:=hx2.size
  have HX3:=hid hx2
  have hcz : cv.toArray.size = 15:=Eq.trans (List.size_toArray ..) (KidRun.W_good.len hW)
  have hth : Hid (w2.there w.heap.size (k * 15) cv.toArray.size):=by show World.there _ _ _ _;rw [hcz];exact own_there HO3.out HLT.out
  have hsz : Hid ((Tryz.prog.info? 248).map (·.size) = some cv.toArray.size):=by show _ = _;rw [hcz];exact KidRun.size_info
  have hon : Hid (cv.toArray.all (·.oneCell') = true):=all_oneCell_toArray (KidRun.W_one hW)
  clear hx2 hW hcz
  go_wp2_with (refine wpList_store_mid rfl 248 _ _ rfl w.heap.size (k * 15) cv.toArray rfl rfl hth.out hsz.out hon.out ?_)
  go_roundw
  case rel =>
   have hl3 : cs.length = n * 15:=HO2.out.1
   have hkn:=HLT.out
   have hcl:=KidRun.W_good.len HWW.out
   have cc : Chg (fun g => g = w.heap.size) w2 (w2.setCells w.heap.size (k * 15) cv):=Chg.cells (S:=fun g => g = w.heap.size) rfl cv _ (Chg.refl _ _)
   have hsize : w2.heap.size ≤ (w2.setCells w.heap.size (k * 15) cv).heap.size:=cc.size
   refine ⟨k + 1,putAt cs (k * 15) cv,_,by omega,by go_num,hid (own_cells cv (k * 15) HO3.out),hid (WRows.step (b:=wr.heap.size) KidRun.W_good HU.out (fun g hg => hg.2) (Chg.trans (HX3.out.chg _) cc) (fun g hg q => by have h1:=hg.1;have h2 : g = w.heap.size:=q;omega) (fun g hg => ⟨hg.1,by have h:=hg.2;show g < (w2.setCells _ _ cv).heap.size;omega⟩) HXK.out (KidRun.W_good.mono (KidRun.W_good.chg HWW.out cc (fun g hg q => by have h1:=hg.1;have h2 : g = w.heap.size:=q;omega)) (fun g hg => ⟨⟨by have h1:=hg.1;omega,by have h:=hg.2;show g < (w2.setCells _ _ cv).heap.size;omega⟩,hg.1⟩)) (fun j hj => putAt_lt _ _ _ _ hj) (fun j hj => putAt_at _ _ _ _ (by omega) (by omega))),?_⟩
   exact (HX2.out.tr HX3.out).cells (Nat.le_refl _) cv _
  case measure => have h:=HLT.out;simp [intOf];omega
set_option maxRecDepth 8000 in
theorem eqKidRun_same (x : KidRun) (cs cs' : List Value) (w : World) (S S' : Nat → Prop) (h : KidRun.R w S cs x) (u : KidRun.R w S' cs' x) :
  Calls Tryz.prog 230 #[.agg cs.toArray,.agg cs'.toArray] w fun e w' => e = .returned (.bool true) ∧ Ext w w':=by
 obtain ⟨A0,n0,c0,A1,n1,c1,A2,n2,c2,A3,n3,c3,rfl,⟨kh0,mh0,h0⟩,⟨kh1,mh1,h1⟩,⟨kh2,mh2,h2⟩,⟨kh3,mh3,h3⟩⟩:=h
 obtain ⟨B0,p0,d0,B1,p1,d1,B2,p2,d2,B3,p3,d3,rfl,⟨ku0,mu0,u0⟩,⟨ku1,mu1,u1⟩,⟨ku2,mu2,u2⟩,⟨ku3,mu3,u3⟩⟩:=u
 obtain rfl : n0 = p0:=by have a:=h0.len;have b:=u0.len;omega
 obtain rfl : n1 = p1:=by have a:=h1.flen Entry.cells_length (by omega);have b:=u1.flen Entry.cells_length (by omega);omega
 obtain rfl : n2 = p2:=by have a:=h2.flen Row.cells_length (by omega);have b:=u2.flen Row.cells_length (by omega);omega
 obtain rfl : n3 = p3:=by have a:=h3.1;have b:=u3.1;omega
 have H0:=hid h0
 have U0:=hid u0
 have H1:=hid h1
 have U1:=hid u1
 have H2:=hid h2
 have U2:=hid u2
 have H3:=hid h3
 have U3:=hid u3
 clear h0 u0 h1 u1 h2 u2 h3 u3
 show Calls Tryz.prog _ #[.agg #[.int .i64 x.phase_,.int .i64 x.pc_,.int .i64 x.since_,.int .i64 x.tries_,.int .i64 x.at_,.int .i64 x.out_,.slice A0 n0 c0,.slice A1 n1 c1,.slice A2 n2 c2,.slice A3 n3 c3,.bool x.busy_,.int .i64 x.probe_.cell_,.int .i64 x.probe_.phase_,.int .i64 x.probe_.ver_,.int .i64 x.probe_.val_],.agg #[.int .i64 x.phase_,.int .i64 x.pc_,.int .i64 x.since_,.int .i64 x.tries_,.int .i64 x.at_,.int .i64 x.out_,.slice B0 n0 d0,.slice B1 n1 d1,.slice B2 n2 d2,.slice B3 n3 d3,.bool x.busy_,.int .i64 x.probe_.cell_,.int .i64 x.probe_.phase_,.int .i64 x.probe_.ver_,.int .i64 x.probe_.val_]] w _
 go_enter Tryz.func230,Tryz.ntmps230
 go_wp2_with fail
 refine (eqIntS_same _ _ _ _ _ _ _ S S' (H0.out.ext (((Ext.refl' w).al _).al _)) (U0.out.ext (((Ext.refl' w).al _).al _)) mh0).mono ?_
 rintro e w1 ⟨rfl,x1⟩
 have z1 : w.heap.size + 2 ≤ w1.heap.size:=by have h:=x1.size;(try simp at h);omega
 have ba1 : Hid (Bx w1 (w.heap.size) 248 #[.int .i64 x.phase_,.int .i64 x.pc_,.int .i64 x.since_,.int .i64 x.tries_,.int .i64 x.at_,.int .i64 x.out_,.slice A0 n0 c0,.slice A1 n1 c1,.slice A2 n2 c2,.slice A3 n3 c3,.bool x.busy_,.int .i64 x.probe_.cell_,.int .i64 x.probe_.phase_,.int .i64 x.probe_.ver_,.int .i64 x.probe_.val_]):=Bx.ext ((Bx.new' _ _ _ rfl).al _) x1
 have bb1 : Hid (Bx w1 (w.heap.size + 1) 248 #[.int .i64 x.phase_,.int .i64 x.pc_,.int .i64 x.since_,.int .i64 x.tries_,.int .i64 x.at_,.int .i64 x.out_,.slice B0 n0 d0,.slice B1 n1 d1,.slice B2 n2 d2,.slice B3 n3 d3,.bool x.busy_,.int .i64 x.probe_.cell_,.int .i64 x.probe_.phase_,.int .i64 x.probe_.ver_,.int .i64 x.probe_.val_]):=Bx.ext (Bx.new' _ _ _ (by simp)) x1
 have X1 : Ext w w1:=Ext.tr (((Ext.refl' w).al _).al _) x1
 clear x1
 have ca1_7 : w1.cell? ⟨w.heap.size,7,none⟩ = some (.slice A1 n1 c1):=ba1.out.cell 7
 have cb1_7 : w1.cell? ⟨w.heap.size + 1,7,none⟩ = some (.slice B1 n1 d1):=bb1.out.cell 7
 go_wp2_with fail
 refine (eqEntryS_same _ _ _ _ _ _ _ S S' (H1.out.ext (X1)) (U1.out.ext (X1)) mh1).mono ?_
 rintro e w2 ⟨rfl,x2⟩
 have z2 : w.heap.size + 2 ≤ w2.heap.size:=by have h:=x2.size;(try simp at h);omega
 have ba2 : Hid (Bx w2 (w.heap.size) 248 #[.int .i64 x.phase_,.int .i64 x.pc_,.int .i64 x.since_,.int .i64 x.tries_,.int .i64 x.at_,.int .i64 x.out_,.slice A0 n0 c0,.slice A1 n1 c1,.slice A2 n2 c2,.slice A3 n3 c3,.bool x.busy_,.int .i64 x.probe_.cell_,.int .i64 x.probe_.phase_,.int .i64 x.probe_.ver_,.int .i64 x.probe_.val_]):=Bx.ext (ba1.out) x2
 have bb2 : Hid (Bx w2 (w.heap.size + 1) 248 #[.int .i64 x.phase_,.int .i64 x.pc_,.int .i64 x.since_,.int .i64 x.tries_,.int .i64 x.at_,.int .i64 x.out_,.slice B0 n0 d0,.slice B1 n1 d1,.slice B2 n2 d2,.slice B3 n3 d3,.bool x.busy_,.int .i64 x.probe_.cell_,.int .i64 x.probe_.phase_,.int .i64 x.probe_.ver_,.int .i64 x.probe_.val_]):=Bx.ext (bb1.out) x2
 have X2 : Ext w w2:=Ext.tr (X1) x2
 clear x2
 have ca2_8 : w2.cell? ⟨w.heap.size,8,none⟩ = some (.slice A2 n2 c2):=ba2.out.cell 8
 have cb2_8 : w2.cell? ⟨w.heap.size + 1,8,none⟩ = some (.slice B2 n2 d2):=bb2.out.cell 8
 go_wp2_with fail
 refine (eqRowS_same _ _ _ _ _ _ _ S S' (H2.out.ext (X2)) (U2.out.ext (X2)) mh2).mono ?_
 rintro e w3 ⟨rfl,x3⟩
 have z3 : w.heap.size + 2 ≤ w3.heap.size:=by have h:=x3.size;(try simp at h);omega
 have ba3 : Hid (Bx w3 (w.heap.size) 248 #[.int .i64 x.phase_,.int .i64 x.pc_,.int .i64 x.since_,.int .i64 x.tries_,.int .i64 x.at_,.int .i64 x.out_,.slice A0 n0 c0,.slice A1 n1 c1,.slice A2 n2 c2,.slice A3 n3 c3,.bool x.busy_,.int .i64 x.probe_.cell_,.int .i64 x.probe_.phase_,.int .i64 x.probe_.ver_,.int .i64 x.probe_.val_]):=Bx.ext (ba2.out) x3
 have bb3 : Hid (Bx w3 (w.heap.size + 1) 248 #[.int .i64 x.phase_,.int .i64 x.pc_,.int .i64 x.since_,.int .i64 x.tries_,.int .i64 x.at_,.int .i64 x.out_,.slice B0 n0 d0,.slice B1 n1 d1,.slice B2 n2 d2,.slice B3 n3 d3,.bool x.busy_,.int .i64 x.probe_.cell_,.int .i64 x.probe_.phase_,.int .i64 x.probe_.ver_,.int .i64 x.probe_.val_]):=Bx.ext (bb2.out) x3
 have X3 : Ext w w3:=Ext.tr (X2) x3
 clear x3
 have ca3_9 : w3.cell? ⟨w.heap.size,9,none⟩ = some (.slice A3 n3 c3):=ba3.out.cell 9
 have cb3_9 : w3.cell? ⟨w.heap.size + 1,9,none⟩ = some (.slice B3 n3 d3):=bb3.out.cell 9
 go_wp2_with fail
 refine (eqKidMarkS_same _ _ _ _ _ x.marks_ _ S S' (SlR.ext KidMark.R_good H3.out (X3)) (SlR.ext KidMark.R_good U3.out (X3)) mh3).mono ?_
 rintro e w4 ⟨rfl,x4⟩
 have z4 : w.heap.size + 2 ≤ w4.heap.size:=by have h:=x4.size;(try simp at h);omega
 have ba4 : Hid (Bx w4 (w.heap.size) 248 #[.int .i64 x.phase_,.int .i64 x.pc_,.int .i64 x.since_,.int .i64 x.tries_,.int .i64 x.at_,.int .i64 x.out_,.slice A0 n0 c0,.slice A1 n1 c1,.slice A2 n2 c2,.slice A3 n3 c3,.bool x.busy_,.int .i64 x.probe_.cell_,.int .i64 x.probe_.phase_,.int .i64 x.probe_.ver_,.int .i64 x.probe_.val_]):=Bx.ext (ba3.out) x4
 have bb4 : Hid (Bx w4 (w.heap.size + 1) 248 #[.int .i64 x.phase_,.int .i64 x.pc_,.int .i64 x.since_,.int .i64 x.tries_,.int .i64 x.at_,.int .i64 x.out_,.slice B0 n0 d0,.slice B1 n1 d1,.slice B2 n2 d2,.slice B3 n3 d3,.bool x.busy_,.int .i64 x.probe_.cell_,.int .i64 x.probe_.phase_,.int .i64 x.probe_.ver_,.int .i64 x.probe_.val_]):=Bx.ext (bb3.out) x4
 have X4 : Ext w w4:=Ext.tr (X3) x4
 clear x4
 have ca4_10 : w4.cell? ⟨w.heap.size,10,none⟩ = some (.bool x.busy_):=ba4.out.cell 10
 have cb4_10 : w4.cell? ⟨w.heap.size + 1,10,none⟩ = some (.bool x.busy_):=bb4.out.cell 10
 have ca4_11 : w4.cell? ⟨w.heap.size,11,none⟩ = some (.int .i64 x.probe_.cell_):=ba4.out.cell 11
 have cb4_11 : w4.cell? ⟨w.heap.size + 1,11,none⟩ = some (.int .i64 x.probe_.cell_):=bb4.out.cell 11
 have ca4_12 : w4.cell? ⟨w.heap.size,12,none⟩ = some (.int .i64 x.probe_.phase_):=ba4.out.cell 12
 have cb4_12 : w4.cell? ⟨w.heap.size + 1,12,none⟩ = some (.int .i64 x.probe_.phase_):=bb4.out.cell 12
 have ca4_13 : w4.cell? ⟨w.heap.size,13,none⟩ = some (.int .i64 x.probe_.ver_):=ba4.out.cell 13
 have cb4_13 : w4.cell? ⟨w.heap.size + 1,13,none⟩ = some (.int .i64 x.probe_.ver_):=bb4.out.cell 13
 have ca4_14 : w4.cell? ⟨w.heap.size,14,none⟩ = some (.int .i64 x.probe_.val_):=ba4.out.cell 14
 have cb4_14 : w4.cell? ⟨w.heap.size + 1,14,none⟩ = some (.int .i64 x.probe_.val_):=bb4.out.cell 14
 go_wp2_with fail
 refine (eqProbe_same _ _ _ _ _).mono ?_
 rintro e w5 ⟨rfl,x5⟩
 have z5 : w.heap.size + 2 ≤ w5.heap.size:=by have h:=x5.size;(try simp at h);omega
 have ba5 : Hid (Bx w5 (w.heap.size) 248 #[.int .i64 x.phase_,.int .i64 x.pc_,.int .i64 x.since_,.int .i64 x.tries_,.int .i64 x.at_,.int .i64 x.out_,.slice A0 n0 c0,.slice A1 n1 c1,.slice A2 n2 c2,.slice A3 n3 c3,.bool x.busy_,.int .i64 x.probe_.cell_,.int .i64 x.probe_.phase_,.int .i64 x.probe_.ver_,.int .i64 x.probe_.val_]):=Bx.ext (ba4.out) x5
 have bb5 : Hid (Bx w5 (w.heap.size + 1) 248 #[.int .i64 x.phase_,.int .i64 x.pc_,.int .i64 x.since_,.int .i64 x.tries_,.int .i64 x.at_,.int .i64 x.out_,.slice B0 n0 d0,.slice B1 n1 d1,.slice B2 n2 d2,.slice B3 n3 d3,.bool x.busy_,.int .i64 x.probe_.cell_,.int .i64 x.probe_.phase_,.int .i64 x.probe_.ver_,.int .i64 x.probe_.val_]):=Bx.ext (bb4.out) x5
 have X5 : Ext w w5:=Ext.tr (X4) x5
 clear x5
 go_wp2
 go_ret
 exact ⟨rfl,X5⟩
set_option maxRecDepth 8000 in
theorem eqKidRunS_same (A B : Option Addr) (n c d : Nat) (l : List KidRun) (w : World) (S S' : Nat → Prop) (ha : SlR KidRun.R 15 w S A n l) (hb : SlR KidRun.R 15 w S' B n l) (hm : n ≤ 9223372036854775807) :
  Calls Tryz.prog 216 #[.slice A n c,.slice B n d] w fun e w' => e = .returned (.bool true) ∧ Ext w w':=by
 have HA:=hid ha
 have HB:=hid hb
 clear ha hb
 go_enter Tryz.func216,Tryz.ntmps216
 go_wp2
 go_loopw [5] (fun i wr => ∃ (k : Nat),k ≤ n ∧ i = .int .i64 k ∧ Ext w wr) (fun i _ => n - (intOf i).toNat)
 case atStart => exact ⟨0,Nat.zero_le _,rfl,Ext.refl' _⟩
 case round =>
  obtain ⟨k,hk,rfl,hx⟩:=hrel
  have HX:=hid hx
  clear hx
  by_cases hlt : (k : Int) < (n : Int)
  rotate_left
  ·go_wp2
   go_ret
   exact ⟨rfl,HX.out⟩
  obtain ⟨b,o,rfl⟩:=HA.out.addr (by omega)
  obtain ⟨b2,o2,rfl⟩:=HB.out.addr (by omega)
  obtain ⟨x,row,hxk,-,hrw,hc⟩:=(HA.out.ext KidRun.R_good HX.out).at_ (k:=k) (by omega)
  obtain ⟨y,row2,hyk,-,hrw2,hc2⟩:=(HB.out.ext KidRun.R_good HX.out).at_ (k:=k) (by omega)
  rw [hxk] at hyk
  injection hyk with hyk
  subst hyk
  have rx:=hid (SlR.range KidRun.R_good hrw hc)
  have ry:=hid (SlR.range KidRun.R_good hrw2 hc2)
  have RX:=hid hrw
  have RY:=hid hrw2
  have l1 : Hid ((Tryz.prog.info? 248).map (·.size) = some row.length):=by show _ = _;rw [KidRun.R_good.len hrw];exact KidRun.size_info
  have l2 : Hid ((Tryz.prog.info? 248).map (·.size) = some row2.length):=by show _ = _;rw [KidRun.R_good.len hrw2];exact KidRun.size_info
  have KX : Hid (∀ wq,Ext wr wq → wq.rangeAt b (o + k * 15) row):=fun wq q j v hv => q.co (rx.out j v hv)
  have KY : Hid (∀ wq,Ext wr wq → wq.rangeAt b2 (o2 + k * 15) row2):=fun wq q j v hv => q.co (ry.out j v hv)
  have hk0 : (0 : Int) ≤ (k : Int):=by omega
  clear hrw hrw2 hc hc2 hxk
  go_wp2
  refine region_class (fun w' => Ext wr w') (by kernel_rfl) (by kernel_rfl) ((Ext.refl' _).dr) ?_
  repeat (first|go_big_quiet_skip|(go_big_quiet_want;first|(refine quiet_load 248 _ rfl b (o + k * 15) rfl row _ KX.out Tryz.underlying248 rfl l1.out ?_;(try simp only [Act.put,List.setIfInBounds_toArray,List.set_cons_zero,List.set_cons_succ]);go_big_quiet_on)|(refine quiet_load 248 _ rfl b2 (o2 + k * 15) rfl row2 _ KY.out Tryz.underlying248 rfl l2.out ?_;(try simp only [Act.put,List.setIfInBounds_toArray,List.set_cons_zero,List.set_cons_succ]);go_big_quiet_on)|(unfold Oper.quiet;apply Exists.intro;refine ⟨fun wq hq => ?_,?_⟩;(go_simp;first|done|rfl|(go_at_call 230;exact (eqKidRun_same x row row2 _ S S' (KidRun.R_good.ext RX.out hq) (KidRun.R_good.ext RY.out hq)).mono fun e w2 h2 => ⟨h2.1,hq.tr h2.2⟩));(try simp only [Act.put,List.setIfInBounds_toArray,List.set_cons_zero,List.set_cons_succ]);go_big_quiet_on)))
  refine wpQuiet_nil ?_
  intro wq hq
  have XE:=hid hq
  clear hq
  go_wp2
  go_roundw
  case rel => exact ⟨k + 1,by omega,by go_num,HX.out.tr XE.out⟩
  case measure => simp [intOf];omega

end Go.Proofs.YtoegjiigaoanbaaGreat
namespace Go.Proofs.YtoegjiigaoanbaaGreat
open Go.RowKit Go.Deep
set_option linter.unnecessarySimpa false
set_option maxHeartbeats 400000000
open Go.Lib (hid)

/-! ### Family -/
structure Family where
 rv_ : Int
 clock_ : Int
 owner_ : Int
 lost_ : Bool
 regs_ : List Int
 start_ : List Row
 buf_ : List Entry
 order_ : List Int
 reads_ : List Row
 kids_ : List KidRun
deriving Inhabited
def Family.wt (x : Family) : Nat:=x.regs_.length + x.start_.length + x.buf_.length + x.order_.length + x.reads_.length + wtl KidRun.wt x.kids_
def Family.R (w : World) (S : Nat → Prop) (cs : List Value) (x : Family) : Prop:=∃ (A0 : Option Addr) (n0 c0 : Nat) (A1 : Option Addr) (n1 c1 : Nat) (A2 : Option Addr) (n2 c2 : Nat) (A3 : Option Addr) (n3 c3 : Nat) (A4 : Option Addr) (n4 c4 : Nat) (A5 : Option Addr) (n5 c5 : Nat),cs = [.int .i64 x.rv_,.int .i64 x.clock_,.int .i64 x.owner_,.bool x.lost_,.slice A0 n0 c0,.slice A1 n1 c1,.slice A2 n2 c2,.slice A3 n3 c3,.slice A4 n4 c4,.slice A5 n5 c5] ∧ (n0 ≤ c0 ∧ n0 ≤ 9223372036854775807 ∧ Sl w S 1 A0 n0 (ints x.regs_)) ∧ (n1 ≤ c1 ∧ n1 ≤ 9223372036854775807 ∧ Sl w S 2 A1 n1 (x.start_.flatMap Row.cells)) ∧ (n2 ≤ c2 ∧ n2 ≤ 9223372036854775807 ∧ Sl w S 3 A2 n2 (x.buf_.flatMap Entry.cells)) ∧ (n3 ≤ c3 ∧ n3 ≤ 9223372036854775807 ∧ Sl w S 1 A3 n3 (ints x.order_)) ∧ (n4 ≤ c4 ∧ n4 ≤ 9223372036854775807 ∧ Sl w S 2 A4 n4 (x.reads_.flatMap Row.cells)) ∧ (n5 ≤ c5 ∧ n5 ≤ 9223372036854775807 ∧ SlR KidRun.R 15 w S A5 n5 x.kids_)
def Family.W (w : World) (S : Nat → Prop) (cs : List Value) (x : Family) : Prop:=∃ (A0 : Option Addr) (n0 c0 : Nat) (A1 : Option Addr) (n1 c1 : Nat) (A2 : Option Addr) (n2 c2 : Nat) (A3 : Option Addr) (n3 c3 : Nat) (A4 : Option Addr) (n4 c4 : Nat) (A5 : Option Addr) (n5 c5 : Nat) (lab : Nat → Nat),cs = [.int .i64 x.rv_,.int .i64 x.clock_,.int .i64 x.owner_,.bool x.lost_,.slice A0 n0 c0,.slice A1 n1 c1,.slice A2 n2 c2,.slice A3 n3 c3,.slice A4 n4 c4,.slice A5 n5 c5] ∧ (n0 ≤ c0 ∧ n0 ≤ 9223372036854775807 ∧ OwS w (fun g => S g ∧ lab g = 0) 3 1 A0 n0 c0 (ints x.regs_)) ∧ (n1 ≤ c1 ∧ n1 ≤ 9223372036854775807 ∧ OwS w (fun g => S g ∧ lab g = 1) 239 2 A1 n1 c1 (x.start_.flatMap Row.cells)) ∧ (n2 ≤ c2 ∧ n2 ≤ 9223372036854775807 ∧ OwS w (fun g => S g ∧ lab g = 2) 245 3 A2 n2 c2 (x.buf_.flatMap Entry.cells)) ∧ (n3 ≤ c3 ∧ n3 ≤ 9223372036854775807 ∧ OwS w (fun g => S g ∧ lab g = 3) 3 1 A3 n3 c3 (ints x.order_)) ∧ (n4 ≤ c4 ∧ n4 ≤ 9223372036854775807 ∧ OwS w (fun g => S g ∧ lab g = 4) 239 2 A4 n4 c4 (x.reads_.flatMap Row.cells)) ∧ (n5 ≤ c5 ∧ n5 ≤ 9223372036854775807 ∧ SlW KidRun.W 248 15 w (fun g => S g ∧ lab g = 5) A5 n5 c5 x.kids_)
theorem Family.R_good : Good Family.R 10:=⟨fun {_ _ _ _} h => by
  obtain ⟨A0,n0,c0,A1,n1,c1,A2,n2,c2,A3,n3,c3,A4,n4,c4,A5,n5,c5,rfl,⟨kh0,mh0,h0⟩,⟨kh1,mh1,h1⟩,⟨kh2,mh2,h2⟩,⟨kh3,mh3,h3⟩,⟨kh4,mh4,h4⟩,⟨kh5,mh5,h5⟩⟩:=h
  rfl,
 fun {_ _ _ _ _ _} h k hd => by
  obtain ⟨A0,n0,c0,A1,n1,c1,A2,n2,c2,A3,n3,c3,A4,n4,c4,A5,n5,c5,rfl,⟨kh0,mh0,h0⟩,⟨kh1,mh1,h1⟩,⟨kh2,mh2,h2⟩,⟨kh3,mh3,h3⟩,⟨kh4,mh4,h4⟩,⟨kh5,mh5,h5⟩⟩:=h
  exact ⟨_,_,_,_,_,_,_,_,_,_,_,_,_,_,_,_,_,_,rfl,⟨kh0,mh0,h0.chg k hd⟩,⟨kh1,mh1,h1.chg k hd⟩,⟨kh2,mh2,h2.chg k hd⟩,⟨kh3,mh3,h3.chg k hd⟩,⟨kh4,mh4,h4.chg k hd⟩,⟨kh5,mh5,h5.chg KidRun.R_good k hd⟩⟩,
 fun {_ _ _ _ _} h hs => by
  obtain ⟨A0,n0,c0,A1,n1,c1,A2,n2,c2,A3,n3,c3,A4,n4,c4,A5,n5,c5,rfl,⟨kh0,mh0,h0⟩,⟨kh1,mh1,h1⟩,⟨kh2,mh2,h2⟩,⟨kh3,mh3,h3⟩,⟨kh4,mh4,h4⟩,⟨kh5,mh5,h5⟩⟩:=h
  exact ⟨_,_,_,_,_,_,_,_,_,_,_,_,_,_,_,_,_,_,rfl,⟨kh0,mh0,h0.mono hs⟩,⟨kh1,mh1,h1.mono hs⟩,⟨kh2,mh2,h2.mono hs⟩,⟨kh3,mh3,h3.mono hs⟩,⟨kh4,mh4,h4.mono hs⟩,⟨kh5,mh5,h5.mono KidRun.R_good hs⟩⟩⟩
theorem Family.W_good : Good Family.W 10:=⟨fun {_ _ _ _} h => by
  obtain ⟨A0,n0,c0,A1,n1,c1,A2,n2,c2,A3,n3,c3,A4,n4,c4,A5,n5,c5,lab,rfl,⟨kh0,mh0,h0⟩,⟨kh1,mh1,h1⟩,⟨kh2,mh2,h2⟩,⟨kh3,mh3,h3⟩,⟨kh4,mh4,h4⟩,⟨kh5,mh5,h5⟩⟩:=h
  rfl,
 fun {_ _ _ _ _ _} h k hd => by
  obtain ⟨A0,n0,c0,A1,n1,c1,A2,n2,c2,A3,n3,c3,A4,n4,c4,A5,n5,c5,lab,rfl,⟨kh0,mh0,h0⟩,⟨kh1,mh1,h1⟩,⟨kh2,mh2,h2⟩,⟨kh3,mh3,h3⟩,⟨kh4,mh4,h4⟩,⟨kh5,mh5,h5⟩⟩:=h
  exact ⟨_,_,_,_,_,_,_,_,_,_,_,_,_,_,_,_,_,_,lab,rfl,⟨kh0,mh0,h0.chg k fun i hi => hd i hi.1⟩,⟨kh1,mh1,h1.chg k fun i hi => hd i hi.1⟩,⟨kh2,mh2,h2.chg k fun i hi => hd i hi.1⟩,⟨kh3,mh3,h3.chg k fun i hi => hd i hi.1⟩,⟨kh4,mh4,h4.chg k fun i hi => hd i hi.1⟩,⟨kh5,mh5,h5.chg KidRun.W_good k fun i hi => hd i hi.1⟩⟩,
 fun {_ _ _ _ _} h hs => by
  obtain ⟨A0,n0,c0,A1,n1,c1,A2,n2,c2,A3,n3,c3,A4,n4,c4,A5,n5,c5,lab,rfl,⟨kh0,mh0,h0⟩,⟨kh1,mh1,h1⟩,⟨kh2,mh2,h2⟩,⟨kh3,mh3,h3⟩,⟨kh4,mh4,h4⟩,⟨kh5,mh5,h5⟩⟩:=h
  exact ⟨_,_,_,_,_,_,_,_,_,_,_,_,_,_,_,_,_,_,lab,rfl,⟨kh0,mh0,h0.mono fun i _ hi => ⟨hs i hi.1,hi.2⟩⟩,⟨kh1,mh1,h1.mono fun i _ hi => ⟨hs i hi.1,hi.2⟩⟩,⟨kh2,mh2,h2.mono fun i _ hi => ⟨hs i hi.1,hi.2⟩⟩,⟨kh3,mh3,h3.mono fun i _ hi => ⟨hs i hi.1,hi.2⟩⟩,⟨kh4,mh4,h4.mono fun i _ hi => ⟨hs i hi.1,hi.2⟩⟩,⟨kh5,mh5,h5.mono KidRun.W_good fun i hi => ⟨hs i hi.1,hi.2⟩⟩⟩⟩
theorem Family.W_R {w : World} {S : Nat → Prop} {cs : List Value} {x : Family} (h : Family.W w S cs x) : Family.R w S cs x:=by
 obtain ⟨A0,n0,c0,A1,n1,c1,A2,n2,c2,A3,n3,c3,A4,n4,c4,A5,n5,c5,lab,rfl,⟨kh0,mh0,h0⟩,⟨kh1,mh1,h1⟩,⟨kh2,mh2,h2⟩,⟨kh3,mh3,h3⟩,⟨kh4,mh4,h4⟩,⟨kh5,mh5,h5⟩⟩:=h
 exact ⟨_,_,_,_,_,_,_,_,_,_,_,_,_,_,_,_,_,_,rfl,⟨kh0,mh0,h0.sl.mono fun i hi => hi.1⟩,⟨kh1,mh1,h1.sl.mono fun i hi => hi.1⟩,⟨kh2,mh2,h2.sl.mono fun i hi => hi.1⟩,⟨kh3,mh3,h3.sl.mono fun i hi => hi.1⟩,⟨kh4,mh4,h4.sl.mono fun i hi => hi.1⟩,⟨kh5,mh5,(h5.slr KidRun.R_good KidRun.W_R).mono KidRun.R_good fun i hi => hi.1⟩⟩
theorem Family.R_cells {w : World} {S : Nat → Prop} {cs : List Value} {x : Family} (h : Family.R w S cs x) : ∃ (A0 : Option Addr) (n0 c0 : Nat) (A1 : Option Addr) (n1 c1 : Nat) (A2 : Option Addr) (n2 c2 : Nat) (A3 : Option Addr) (n3 c3 : Nat) (A4 : Option Addr) (n4 c4 : Nat) (A5 : Option Addr) (n5 c5 : Nat),cs = [.int .i64 x.rv_,.int .i64 x.clock_,.int .i64 x.owner_,.bool x.lost_,.slice A0 n0 c0,.slice A1 n1 c1,.slice A2 n2 c2,.slice A3 n3 c3,.slice A4 n4 c4,.slice A5 n5 c5]:=by
 obtain ⟨A0,n0,c0,A1,n1,c1,A2,n2,c2,A3,n3,c3,A4,n4,c4,A5,n5,c5,rfl,⟨kh0,mh0,h0⟩,⟨kh1,mh1,h1⟩,⟨kh2,mh2,h2⟩,⟨kh3,mh3,h3⟩,⟨kh4,mh4,h4⟩,⟨kh5,mh5,h5⟩⟩:=h
 exact ⟨A0,n0,c0,A1,n1,c1,A2,n2,c2,A3,n3,c3,A4,n4,c4,A5,n5,c5,rfl⟩
theorem Family.W_cells {w : World} {S : Nat → Prop} {cs : List Value} {x : Family} (h : Family.W w S cs x) : ∃ (A0 : Option Addr) (n0 c0 : Nat) (A1 : Option Addr) (n1 c1 : Nat) (A2 : Option Addr) (n2 c2 : Nat) (A3 : Option Addr) (n3 c3 : Nat) (A4 : Option Addr) (n4 c4 : Nat) (A5 : Option Addr) (n5 c5 : Nat),cs = [.int .i64 x.rv_,.int .i64 x.clock_,.int .i64 x.owner_,.bool x.lost_,.slice A0 n0 c0,.slice A1 n1 c1,.slice A2 n2 c2,.slice A3 n3 c3,.slice A4 n4 c4,.slice A5 n5 c5]:=by
 obtain ⟨A0,n0,c0,A1,n1,c1,A2,n2,c2,A3,n3,c3,A4,n4,c4,A5,n5,c5,lab,rfl,⟨kh0,mh0,h0⟩,⟨kh1,mh1,h1⟩,⟨kh2,mh2,h2⟩,⟨kh3,mh3,h3⟩,⟨kh4,mh4,h4⟩,⟨kh5,mh5,h5⟩⟩:=h
 exact ⟨A0,n0,c0,A1,n1,c1,A2,n2,c2,A3,n3,c3,A4,n4,c4,A5,n5,c5,rfl⟩
set_option maxRecDepth 8000 in
theorem opens_Family : Opens Tryz.prog 147 (fun w cs (x : Family) => Family.R w (fun _ => True) cs x):=by
 intro H enc w base spare held fuel cs x h
 obtain ⟨xs,n,_,_,hlen,hxl,hf⟩:=DataW.trod_struct Tryz.underlying147 h
 rw [show Tryz.prog.cellsOf 147 = 10 from by kernel_rfl] at hlen
 have hxl' : xs.length = 10:=hxl
 have h0 : DataW.trod enc Tryz.prog w base spare held n 3 ((cs.drop 0).take (Tryz.prog.cellsOf 3)) = xs[0]?:=hf 0 _ rfl
 rw [show Tryz.prog.cellsOf 3 = 1 from by kernel_rfl,List.getElem?_eq_getElem (show 0 < xs.length by omega)] at h0
 obtain ⟨f0,e0,-,-⟩:=DataW.trod_int Tryz.underlying3 h0
 have h1 : DataW.trod enc Tryz.prog w base spare held n 3 ((cs.drop 1).take (Tryz.prog.cellsOf 3)) = xs[1]?:=hf 1 _ rfl
 rw [show Tryz.prog.cellsOf 3 = 1 from by kernel_rfl,List.getElem?_eq_getElem (show 1 < xs.length by omega)] at h1
 obtain ⟨f1,e1,-,-⟩:=DataW.trod_int Tryz.underlying3 h1
 have h2 : DataW.trod enc Tryz.prog w base spare held n 3 ((cs.drop 2).take (Tryz.prog.cellsOf 3)) = xs[2]?:=hf 2 _ rfl
 rw [show Tryz.prog.cellsOf 3 = 1 from by kernel_rfl,List.getElem?_eq_getElem (show 2 < xs.length by omega)] at h2
 obtain ⟨f2,e2,-,-⟩:=DataW.trod_int Tryz.underlying3 h2
 have h3 : DataW.trod enc Tryz.prog w base spare held n 4 ((cs.drop 3).take (Tryz.prog.cellsOf 4)) = xs[3]?:=hf 3 _ rfl
 rw [show Tryz.prog.cellsOf 4 = 1 from by kernel_rfl,List.getElem?_eq_getElem (show 3 < xs.length by omega)] at h3
 obtain ⟨f3,e3,-⟩:=DataW.trod_bool Tryz.underlying4 h3
 have h4 : DataW.trod enc Tryz.prog w base spare held n 22 ((cs.drop 4).take (Tryz.prog.cellsOf 22)) = xs[4]?:=hf 4 _ rfl
 rw [show Tryz.prog.cellsOf 22 = 1 from by kernel_rfl,List.getElem?_eq_getElem (show 4 < xs.length by omega)] at h4
 obtain ⟨f4,A4,n4,c4,e4,g4,g4',-,-,s4⟩:=opens_ints Tryz.underlying22 Tryz.underlying3 (by kernel_rfl) H enc w base spare held n _ _ h4
 have h5 : DataW.trod enc Tryz.prog w base spare held n 138 ((cs.drop 5).take (Tryz.prog.cellsOf 138)) = xs[5]?:=hf 5 _ rfl
 rw [show Tryz.prog.cellsOf 138 = 1 from by kernel_rfl,List.getElem?_eq_getElem (show 5 < xs.length by omega)] at h5
 obtain ⟨f5,A5,n5,c5,e5,g5,g5',-,-,s5⟩:=opens_flat Tryz.underlying138 (by kernel_rfl) (by omega) Row.cells_length opens_Row H enc w base spare held n _ _ h5
 have h6 : DataW.trod enc Tryz.prog w base spare held n 144 ((cs.drop 6).take (Tryz.prog.cellsOf 144)) = xs[6]?:=hf 6 _ rfl
 rw [show Tryz.prog.cellsOf 144 = 1 from by kernel_rfl,List.getElem?_eq_getElem (show 6 < xs.length by omega)] at h6
 obtain ⟨f6,A6,n6,c6,e6,g6,g6',-,-,s6⟩:=opens_flat Tryz.underlying144 (by kernel_rfl) (by omega) Entry.cells_length opens_Entry H enc w base spare held n _ _ h6
 have h7 : DataW.trod enc Tryz.prog w base spare held n 22 ((cs.drop 7).take (Tryz.prog.cellsOf 22)) = xs[7]?:=hf 7 _ rfl
 rw [show Tryz.prog.cellsOf 22 = 1 from by kernel_rfl,List.getElem?_eq_getElem (show 7 < xs.length by omega)] at h7
 obtain ⟨f7,A7,n7,c7,e7,g7,g7',-,-,s7⟩:=opens_ints Tryz.underlying22 Tryz.underlying3 (by kernel_rfl) H enc w base spare held n _ _ h7
 have h8 : DataW.trod enc Tryz.prog w base spare held n 138 ((cs.drop 8).take (Tryz.prog.cellsOf 138)) = xs[8]?:=hf 8 _ rfl
 rw [show Tryz.prog.cellsOf 138 = 1 from by kernel_rfl,List.getElem?_eq_getElem (show 8 < xs.length by omega)] at h8
 obtain ⟨f8,A8,n8,c8,e8,g8,g8',-,-,s8⟩:=opens_flat Tryz.underlying138 (by kernel_rfl) (by omega) Row.cells_length opens_Row H enc w base spare held n _ _ h8
 have h9 : DataW.trod enc Tryz.prog w base spare held n 145 ((cs.drop 9).take (Tryz.prog.cellsOf 145)) = xs[9]?:=hf 9 _ rfl
 rw [show Tryz.prog.cellsOf 145 = 1 from by kernel_rfl,List.getElem?_eq_getElem (show 9 < xs.length by omega)] at h9
 obtain ⟨f9,A9,n9,c9,e9,g9,g9',s9⟩:=opens_deep KidRun.R_good Tryz.underlying145 (by kernel_rfl) (by omega) opens_KidRun H enc w base spare held n _ _ h9
 clear h0 h1 h2 h3 h4 h5 h6 h7 h8 h9 hf h hxl hxl'
 match cs,hlen with
 | [q0,q1,q2,q3,q4,q5,q6,q7,q8,q9],_ =>
  simp only [List.drop_succ_cons,List.drop_zero,List.take_succ_cons,List.take_zero,List.cons.injEq,and_true] at e0 e1 e2 e3 e4 e5 e6 e7 e8 e9
  subst e0
  subst e1
  subst e2
  subst e3
  subst e4
  subst e5
  subst e6
  subst e7
  subst e8
  subst e9
  exact ⟨⟨f0,f1,f2,f3,f4,f5,f6,f7,f8,f9⟩,_,_,_,_,_,_,_,_,_,_,_,_,_,_,_,_,_,_,rfl,⟨g4,Nat.le_trans g4 g4',s4⟩,⟨g5,Nat.le_trans g5 g5',s5⟩,⟨g6,Nat.le_trans g6 g6',s6⟩,⟨g7,Nat.le_trans g7 g7',s7⟩,⟨g8,Nat.le_trans g8 g8',s8⟩,⟨g9,Nat.le_trans g9 g9',s9⟩⟩
set_option maxRecDepth 8000 in
theorem szFamily_any (x : Family) (cs : List Value) (q : Int) (w : World) (S : Nat → Prop) (h : Family.R w S cs x) (hq0 : 0 ≤ q) (hq2 : q ≤ 1048576) :
  Calls Tryz.prog 129 #[.agg cs.toArray,.int .i64 q] w fun e w' => ∃ r : Int,e = .returned (.int .i64 r) ∧ Left r q (Family.wt x) ∧ Ext w w':=by
 obtain ⟨A0,n0,c0,A1,n1,c1,A2,n2,c2,A3,n3,c3,A4,n4,c4,A5,n5,c5,rfl,⟨kh0,mh0,h0⟩,⟨kh1,mh1,h1⟩,⟨kh2,mh2,h2⟩,⟨kh3,mh3,h3⟩,⟨kh4,mh4,h4⟩,⟨kh5,mh5,h5⟩⟩:=h
 have H0:=hid h0
 have H1:=hid h1
 have H2:=hid h2
 have H3:=hid h3
 have H4:=hid h4
 have H5:=hid h5
 clear h0 h1 h2 h3 h4 h5
 show Calls Tryz.prog _ #[.agg #[.int .i64 x.rv_,.int .i64 x.clock_,.int .i64 x.owner_,.bool x.lost_,.slice A0 n0 c0,.slice A1 n1 c1,.slice A2 n2 c2,.slice A3 n3 c3,.slice A4 n4 c4,.slice A5 n5 c5],.int .i64 q] w _
 go_enter Tryz.func129,Tryz.ntmps129
 go_wp2_with fail
 have L0:=hid (H0.out.len)
 refine (szIntS_any _ _ _ (q) _ hq0 hq2 mh0).mono ?_
 rintro e w1 ⟨rfl,xq⟩
 have x1:=Ext.of_eq xq
 clear xq
 have Q0 : Hid (Left (if (n0 : Int) ≤ q then q - n0 else -1) q (x.regs_.length)):=by show Left _ _ _;rw [L0.out];exact Left.of_if
 generalize (if (n0 : Int) ≤ q then q - n0 else -1) = r0 at Q0
 have X1 : Ext w w1:=Ext.tr (((Ext.refl' w).al _)) x1
 have b1 : Hid (Bx w1 w.heap.size 147 #[.int .i64 x.rv_,.int .i64 x.clock_,.int .i64 x.owner_,.bool x.lost_,.slice A0 n0 c0,.slice A1 n1 c1,.slice A2 n2 c2,.slice A3 n3 c3,.slice A4 n4 c4,.slice A5 n5 c5]):=Bx.ext (Bx.new' _ _ _ rfl) x1
 clear x1
 have R0 : Hid (Left r0 q (x.regs_.length)):=Q0
 by_cases g0 : 0 ≤ r0
 rotate_left
 ·have e0 : r0 = -1:=by have a:=R0.out;unfold Left at a;omega
  subst e0
  clear g0
  go_wp2
  go_ret
  exact ⟨-1,rfl,by have a:=R0.out;unfold Left Family.wt at *;omega,X1⟩
 have u0 : r0 ≤ 1048576:=by have a:=R0.out;unfold Left at a;omega
 have ca1_5 : w1.cell? ⟨w.heap.size,5,none⟩ = some (.slice A1 n1 c1):=b1.out.cell 5
 go_wp2_with fail
 have L1:=hid (H1.out.flen Row.cells_length (by omega))
 refine (szRowS_any _ _ _ (r0) _ g0 u0 mh1).mono ?_
 rintro e w2 ⟨rfl,xq⟩
 have x2:=Ext.of_eq xq
 clear xq
 have Q1 : Hid (Left (if (n1 : Int) ≤ r0 then r0 - n1 else -1) r0 (x.start_.length)):=by show Left _ _ _;rw [L1.out];exact Left.of_if
 generalize (if (n1 : Int) ≤ r0 then r0 - n1 else -1) = r1 at Q1
 have X2 : Ext w w2:=Ext.tr (X1) x2
 have b2 : Hid (Bx w2 w.heap.size 147 #[.int .i64 x.rv_,.int .i64 x.clock_,.int .i64 x.owner_,.bool x.lost_,.slice A0 n0 c0,.slice A1 n1 c1,.slice A2 n2 c2,.slice A3 n3 c3,.slice A4 n4 c4,.slice A5 n5 c5]):=Bx.ext (b1.out) x2
 clear x2
 have R1 : Hid (Left r1 q (x.regs_.length + x.start_.length)):=by show Left _ _ _;have a:=R0.out;have b:=Q1.out;unfold Left at *;omega
 by_cases g1 : 0 ≤ r1
 rotate_left
 ·have e1 : r1 = -1:=by have a:=R1.out;unfold Left at a;omega
  subst e1
  clear g1
  go_wp2
  go_ret
  exact ⟨-1,rfl,by have a:=R1.out;unfold Left Family.wt at *;omega,X2⟩
 have u1 : r1 ≤ 1048576:=by have a:=R1.out;unfold Left at a;omega
 have ca2_6 : w2.cell? ⟨w.heap.size,6,none⟩ = some (.slice A2 n2 c2):=b2.out.cell 6
 go_wp2_with fail
 have L2:=hid (H2.out.flen Entry.cells_length (by omega))
 refine (szEntryS_any _ _ _ (r1) _ g1 u1 mh2).mono ?_
 rintro e w3 ⟨rfl,xq⟩
 have x3:=Ext.of_eq xq
 clear xq
 have Q2 : Hid (Left (if (n2 : Int) ≤ r1 then r1 - n2 else -1) r1 (x.buf_.length)):=by show Left _ _ _;rw [L2.out];exact Left.of_if
 generalize (if (n2 : Int) ≤ r1 then r1 - n2 else -1) = r2 at Q2
 have X3 : Ext w w3:=Ext.tr (X2) x3
 have b3 : Hid (Bx w3 w.heap.size 147 #[.int .i64 x.rv_,.int .i64 x.clock_,.int .i64 x.owner_,.bool x.lost_,.slice A0 n0 c0,.slice A1 n1 c1,.slice A2 n2 c2,.slice A3 n3 c3,.slice A4 n4 c4,.slice A5 n5 c5]):=Bx.ext (b2.out) x3
 clear x3
 have R2 : Hid (Left r2 q (x.regs_.length + x.start_.length + x.buf_.length)):=by show Left _ _ _;have a:=R1.out;have b:=Q2.out;unfold Left at *;omega
 by_cases g2 : 0 ≤ r2
 rotate_left
 ·have e2 : r2 = -1:=by have a:=R2.out;unfold Left at a;omega
  subst e2
  clear g2
  go_wp2
  go_ret
  exact ⟨-1,rfl,by have a:=R2.out;unfold Left Family.wt at *;omega,X3⟩
 have u2 : r2 ≤ 1048576:=by have a:=R2.out;unfold Left at a;omega
 have ca3_7 : w3.cell? ⟨w.heap.size,7,none⟩ = some (.slice A3 n3 c3):=b3.out.cell 7
 go_wp2_with fail
 have L3:=hid (H3.out.len)
 refine (szIntS_any _ _ _ (r2) _ g2 u2 mh3).mono ?_
 rintro e w4 ⟨rfl,xq⟩
 have x4:=Ext.of_eq xq
 clear xq
 have Q3 : Hid (Left (if (n3 : Int) ≤ r2 then r2 - n3 else -1) r2 (x.order_.length)):=by show Left _ _ _;rw [L3.out];exact Left.of_if
 generalize (if (n3 : Int) ≤ r2 then r2 - n3 else -1) = r3 at Q3
 have X4 : Ext w w4:=Ext.tr (X3) x4
 have b4 : Hid (Bx w4 w.heap.size 147 #[.int .i64 x.rv_,.int .i64 x.clock_,.int .i64 x.owner_,.bool x.lost_,.slice A0 n0 c0,.slice A1 n1 c1,.slice A2 n2 c2,.slice A3 n3 c3,.slice A4 n4 c4,.slice A5 n5 c5]):=Bx.ext (b3.out) x4
 clear x4
 have R3 : Hid (Left r3 q (x.regs_.length + x.start_.length + x.buf_.length + x.order_.length)):=by show Left _ _ _;have a:=R2.out;have b:=Q3.out;unfold Left at *;omega
 by_cases g3 : 0 ≤ r3
 rotate_left
 ·have e3 : r3 = -1:=by have a:=R3.out;unfold Left at a;omega
  subst e3
  clear g3
  go_wp2
  go_ret
  exact ⟨-1,rfl,by have a:=R3.out;unfold Left Family.wt at *;omega,X4⟩
 have u3 : r3 ≤ 1048576:=by have a:=R3.out;unfold Left at a;omega
 have ca4_8 : w4.cell? ⟨w.heap.size,8,none⟩ = some (.slice A4 n4 c4):=b4.out.cell 8
 go_wp2_with fail
 have L4:=hid (H4.out.flen Row.cells_length (by omega))
 refine (szRowS_any _ _ _ (r3) _ g3 u3 mh4).mono ?_
 rintro e w5 ⟨rfl,xq⟩
 have x5:=Ext.of_eq xq
 clear xq
 have Q4 : Hid (Left (if (n4 : Int) ≤ r3 then r3 - n4 else -1) r3 (x.reads_.length)):=by show Left _ _ _;rw [L4.out];exact Left.of_if
 generalize (if (n4 : Int) ≤ r3 then r3 - n4 else -1) = r4 at Q4
 have X5 : Ext w w5:=Ext.tr (X4) x5
 have b5 : Hid (Bx w5 w.heap.size 147 #[.int .i64 x.rv_,.int .i64 x.clock_,.int .i64 x.owner_,.bool x.lost_,.slice A0 n0 c0,.slice A1 n1 c1,.slice A2 n2 c2,.slice A3 n3 c3,.slice A4 n4 c4,.slice A5 n5 c5]):=Bx.ext (b4.out) x5
 clear x5
 have R4 : Hid (Left r4 q (x.regs_.length + x.start_.length + x.buf_.length + x.order_.length + x.reads_.length)):=by show Left _ _ _;have a:=R3.out;have b:=Q4.out;unfold Left at *;omega
 by_cases g4 : 0 ≤ r4
 rotate_left
 ·have e4 : r4 = -1:=by have a:=R4.out;unfold Left at a;omega
  subst e4
  clear g4
  go_wp2
  go_ret
  exact ⟨-1,rfl,by have a:=R4.out;unfold Left Family.wt at *;omega,X5⟩
 have u4 : r4 ≤ 1048576:=by have a:=R4.out;unfold Left at a;omega
 have ca5_9 : w5.cell? ⟨w.heap.size,9,none⟩ = some (.slice A5 n5 c5):=b5.out.cell 9
 go_wp2_with fail
 refine (szKidRunS_any _ _ _ x.kids_ (r4) _ S (SlR.ext KidRun.R_good H5.out (X5)) mh5 g4 u4).mono ?_
 rintro e w6 ⟨r5,rfl,Q5,x6⟩
 replace Q5:=hid Q5
 have X6 : Ext w w6:=Ext.tr (X5) x6
 have b6 : Hid (Bx w6 w.heap.size 147 #[.int .i64 x.rv_,.int .i64 x.clock_,.int .i64 x.owner_,.bool x.lost_,.slice A0 n0 c0,.slice A1 n1 c1,.slice A2 n2 c2,.slice A3 n3 c3,.slice A4 n4 c4,.slice A5 n5 c5]):=Bx.ext (b5.out) x6
 clear x6
 have R5 : Hid (Left r5 q (x.regs_.length + x.start_.length + x.buf_.length + x.order_.length + x.reads_.length + wtl KidRun.wt x.kids_)):=by show Left _ _ _;have a:=R4.out;have b:=Q5.out;unfold Left at *;omega
 by_cases g5 : 0 ≤ r5
 rotate_left
 ·have e5 : r5 = -1:=by have a:=R5.out;unfold Left at a;omega
  subst e5
  clear g5
  go_wp2
  go_ret
  exact ⟨-1,rfl,by have a:=R5.out;unfold Left Family.wt at *;omega,X6⟩
 have u5 : r5 ≤ 1048576:=by have a:=R5.out;unfold Left at a;omega
 go_wp2
 go_ret
 exact ⟨r5,rfl,R5.out,X6⟩
set_option maxRecDepth 8000 in
theorem toFamily_any (x : Family) (cs : List Value) (w : World) (S : Nat → Prop) (h : Family.R w S cs x) (hw : Family.wt x ≤ 1048576) :
  Calls Tryz.prog 147 #[.agg cs.toArray] w fun e w' => ∃ cs',e = .returned (.agg cs'.toArray) ∧ Family.W w' (fun g => w.heap.size ≤ g ∧ g < w'.heap.size) cs' x ∧ Ext w w':=by
 obtain ⟨A0,n0,c0,A1,n1,c1,A2,n2,c2,A3,n3,c3,A4,n4,c4,A5,n5,c5,rfl,⟨kh0,mh0,h0⟩,⟨kh1,mh1,h1⟩,⟨kh2,mh2,h2⟩,⟨kh3,mh3,h3⟩,⟨kh4,mh4,h4⟩,⟨kh5,mh5,h5⟩⟩:=h
 unfold Family.wt at hw
 have l0:=h0.len
 have n_0 : n0 ≤ 1048576:=by omega
 have l1:=h1.flen Row.cells_length (by omega)
 have n_1 : n1 ≤ 1048576:=by omega
 have l2:=h2.flen Entry.cells_length (by omega)
 have n_2 : n2 ≤ 1048576:=by omega
 have l3:=h3.len
 have n_3 : n3 ≤ 1048576:=by omega
 have l4:=h4.flen Row.cells_length (by omega)
 have n_4 : n4 ≤ 1048576:=by omega
 have l5:=h5.1
 have t5:=wtl_len KidRun.wt x.kids_
 have n_5 : n5 ≤ 1048576:=by omega
 have W_5 : wtl KidRun.wt x.kids_ ≤ 1048576:=by omega
 have H0:=hid h0
 have H1:=hid h1
 have H2:=hid h2
 have H3:=hid h3
 have H4:=hid h4
 have H5:=hid h5
 clear h0 h1 h2 h3 h4 h5 hw l0 l1 l2 l3 l4 l5 t5
 show Calls Tryz.prog _ #[.agg #[.int .i64 x.rv_,.int .i64 x.clock_,.int .i64 x.owner_,.bool x.lost_,.slice A0 n0 c0,.slice A1 n1 c1,.slice A2 n2 c2,.slice A3 n3 c3,.slice A4 n4 c4,.slice A5 n5 c5]] w _
 go_enter Tryz.func147,Tryz.ntmps147
 go_wp2_with fail
 refine (toIntS_any _ _ _ _ _ S (H0.out.ext ((((Ext.refl' w).al _).al _).al _)) n_0).mono ?_
 rintro e w1 ⟨B0,d0,rfl,o0,x1⟩
 have K0 : Hid (n0 ≤ d0):=own_cap o0
 replace o0:=hid (OwS.of_own o0)
 have z1 : w.heap.size + 3 ≤ w1.heap.size:=by have h:=x1.size;(try simp at h);omega
 have ba1 : Hid (Bx w1 (w.heap.size) 147 #[.int .i64 x.rv_,.int .i64 x.clock_,.int .i64 x.owner_,.bool x.lost_,.slice A0 n0 c0,.slice A1 n1 c1,.slice A2 n2 c2,.slice A3 n3 c3,.slice A4 n4 c4,.slice A5 n5 c5]):=Bx.ext (((Bx.new' _ _ _ rfl).al _).al _) x1
 have br1 : Hid (Bx w1 (w.heap.size + 1) 95 #[.int .i64 0,.int .i64 0,.int .i64 0,.bool false,.slice none 0 0,.slice none 0 0,.slice none 0 0,.slice none 0 0,.slice none 0 0,.slice none 0 0]):=Bx.ext ((Bx.new' _ _ _ (by simp)).al _) x1
 have bo1 : Hid (Bx w1 (w.heap.size + 2) 95 #[.int .i64 x.rv_,.int .i64 x.clock_,.int .i64 x.owner_,.bool x.lost_,.slice none 0 0,.slice none 0 0,.slice none 0 0,.slice none 0 0,.slice none 0 0,.slice none 0 0]):=Bx.ext (Bx.new' _ _ _ (by simp)) x1
 have X1 : Ext w w1:=Ext.tr ((((Ext.refl' w).al _).al _).al _) x1
 replace o0 : Hid (OwS w1 (fun g => w.heap.size + 3 ≤ g ∧ g < w1.heap.size) 3 1 B0 n0 d0 (ints x.regs_)):=o0.out.mono (fun g _ hg => by have h1:=hg.1;have h2:=hg.2;constructor <;> (try simp at h1) <;> omega)
 clear x1
 have ca1_5 : w1.cell? ⟨w.heap.size,5,none⟩ = some (.slice A1 n1 c1):=ba1.out.cell 5
 have co1_4 : w1.cell? ⟨w.heap.size + 2,4,none⟩ = some (.slice none 0 0):=bo1.out.cell 4
 have fo1_4 : w1.frozen? ⟨w.heap.size + 2,4,none⟩ = false:=bo1.out.frozen 4
 go_wp2_with fail
 refine (toRowS_any _ _ _ _ _ S (H1.out.ext ((X1).sc2 _)) n_1).mono ?_
 rintro e w2 ⟨B1,d1,rfl,o1,x2⟩
 have K1 : Hid (n1 ≤ d1):=own_cap o1
 replace o1:=hid (OwS.of_own o1)
 have z2 : w.heap.size + 3 ≤ w2.heap.size:=by have h:=x2.size;(try simp at h);omega
 have y2 : w1.heap.size ≤ w2.heap.size:=by have h:=x2.size;(try simp at h);exact h
 have ba2 : Hid (Bx w2 (w.heap.size) 147 #[.int .i64 x.rv_,.int .i64 x.clock_,.int .i64 x.owner_,.bool x.lost_,.slice A0 n0 c0,.slice A1 n1 c1,.slice A2 n2 c2,.slice A3 n3 c3,.slice A4 n4 c4,.slice A5 n5 c5]):=Bx.ext ((ba1.out).far2 _) x2
 have br2 : Hid (Bx w2 (w.heap.size + 1) 95 #[.int .i64 0,.int .i64 0,.int .i64 0,.bool false,.slice none 0 0,.slice none 0 0,.slice none 0 0,.slice none 0 0,.slice none 0 0,.slice none 0 0]):=Bx.ext ((br1.out).far2 _) x2
 have bo2 : Hid (Bx w2 (w.heap.size + 2) 95 #[.int .i64 x.rv_,.int .i64 x.clock_,.int .i64 x.owner_,.bool x.lost_,.slice B0 n0 d0,.slice none 0 0,.slice none 0 0,.slice none 0 0,.slice none 0 0,.slice none 0 0]):=Bx.ext (((bo1.out).set_ _ _).cast (by first|rfl|simp only [List.setIfInBounds_toArray,List.set_cons_succ,List.set_cons_zero])) x2
 have X2 : Ext w w2:=Ext.tr ((X1).sc2 _) x2
 replace o0:=hid (o0.out.chg (Chg.trans ((Chg.refl (fun g => g = w.heap.size + 2) _).sc rfl _) (x2.chg _)) (fun g hg q => by have h1:=hg.1;have hq3 : g = w.heap.size + 2:=q;omega))
 replace o1 : Hid (OwS w2 (fun g => w1.heap.size ≤ g ∧ g < w2.heap.size) 239 2 B1 n1 d1 (x.start_.flatMap Row.cells)):=o1.out.mono (fun g _ hg => by have h1:=hg.1;have h2:=hg.2;constructor <;> (try simp at h1) <;> omega)
 clear x2
 have ca2_6 : w2.cell? ⟨w.heap.size,6,none⟩ = some (.slice A2 n2 c2):=ba2.out.cell 6
 have co2_5 : w2.cell? ⟨w.heap.size + 2,5,none⟩ = some (.slice none 0 0):=bo2.out.cell 5
 have fo2_5 : w2.frozen? ⟨w.heap.size + 2,5,none⟩ = false:=bo2.out.frozen 5
 go_wp2_with fail
 refine (toEntryS_any _ _ _ _ _ S (H2.out.ext ((X2).sc2 _)) n_2).mono ?_
 rintro e w3 ⟨B2,d2,rfl,o2,x3⟩
 have K2 : Hid (n2 ≤ d2):=own_cap o2
 replace o2:=hid (OwS.of_own o2)
 have z3 : w.heap.size + 3 ≤ w3.heap.size:=by have h:=x3.size;(try simp at h);omega
 have y3 : w2.heap.size ≤ w3.heap.size:=by have h:=x3.size;(try simp at h);exact h
 have ba3 : Hid (Bx w3 (w.heap.size) 147 #[.int .i64 x.rv_,.int .i64 x.clock_,.int .i64 x.owner_,.bool x.lost_,.slice A0 n0 c0,.slice A1 n1 c1,.slice A2 n2 c2,.slice A3 n3 c3,.slice A4 n4 c4,.slice A5 n5 c5]):=Bx.ext ((ba2.out).far2 _) x3
 have br3 : Hid (Bx w3 (w.heap.size + 1) 95 #[.int .i64 0,.int .i64 0,.int .i64 0,.bool false,.slice none 0 0,.slice none 0 0,.slice none 0 0,.slice none 0 0,.slice none 0 0,.slice none 0 0]):=Bx.ext ((br2.out).far2 _) x3
 have bo3 : Hid (Bx w3 (w.heap.size + 2) 95 #[.int .i64 x.rv_,.int .i64 x.clock_,.int .i64 x.owner_,.bool x.lost_,.slice B0 n0 d0,.slice B1 n1 d1,.slice none 0 0,.slice none 0 0,.slice none 0 0,.slice none 0 0]):=Bx.ext (((bo2.out).set_ _ _).cast (by first|rfl|simp only [List.setIfInBounds_toArray,List.set_cons_succ,List.set_cons_zero])) x3
 have X3 : Ext w w3:=Ext.tr ((X2).sc2 _) x3
 replace o0:=hid (o0.out.chg (Chg.trans ((Chg.refl (fun g => g = w.heap.size + 2) _).sc rfl _) (x3.chg _)) (fun g hg q => by have h1:=hg.1;have hq3 : g = w.heap.size + 2:=q;omega))
 replace o1:=hid (o1.out.chg (Chg.trans ((Chg.refl (fun g => g = w.heap.size + 2) _).sc rfl _) (x3.chg _)) (fun g hg q => by have h1:=hg.1;have hq3 : g = w.heap.size + 2:=q;omega))
 replace o2 : Hid (OwS w3 (fun g => w2.heap.size ≤ g ∧ g < w3.heap.size) 245 3 B2 n2 d2 (x.buf_.flatMap Entry.cells)):=o2.out.mono (fun g _ hg => by have h1:=hg.1;have h2:=hg.2;constructor <;> (try simp at h1) <;> omega)
 clear x3
 have ca3_7 : w3.cell? ⟨w.heap.size,7,none⟩ = some (.slice A3 n3 c3):=ba3.out.cell 7
 have co3_6 : w3.cell? ⟨w.heap.size + 2,6,none⟩ = some (.slice none 0 0):=bo3.out.cell 6
 have fo3_6 : w3.frozen? ⟨w.heap.size + 2,6,none⟩ = false:=bo3.out.frozen 6
 go_wp2_with fail
 refine (toIntS_any _ _ _ _ _ S (H3.out.ext ((X3).sc2 _)) n_3).mono ?_
 rintro e w4 ⟨B3,d3,rfl,o3,x4⟩
 have K3 : Hid (n3 ≤ d3):=own_cap o3
 replace o3:=hid (OwS.of_own o3)
 have z4 : w.heap.size + 3 ≤ w4.heap.size:=by have h:=x4.size;(try simp at h);omega
 have y4 : w3.heap.size ≤ w4.heap.size:=by have h:=x4.size;(try simp at h);exact h
 have ba4 : Hid (Bx w4 (w.heap.size) 147 #[.int .i64 x.rv_,.int .i64 x.clock_,.int .i64 x.owner_,.bool x.lost_,.slice A0 n0 c0,.slice A1 n1 c1,.slice A2 n2 c2,.slice A3 n3 c3,.slice A4 n4 c4,.slice A5 n5 c5]):=Bx.ext ((ba3.out).far2 _) x4
 have br4 : Hid (Bx w4 (w.heap.size + 1) 95 #[.int .i64 0,.int .i64 0,.int .i64 0,.bool false,.slice none 0 0,.slice none 0 0,.slice none 0 0,.slice none 0 0,.slice none 0 0,.slice none 0 0]):=Bx.ext ((br3.out).far2 _) x4
 have bo4 : Hid (Bx w4 (w.heap.size + 2) 95 #[.int .i64 x.rv_,.int .i64 x.clock_,.int .i64 x.owner_,.bool x.lost_,.slice B0 n0 d0,.slice B1 n1 d1,.slice B2 n2 d2,.slice none 0 0,.slice none 0 0,.slice none 0 0]):=Bx.ext (((bo3.out).set_ _ _).cast (by first|rfl|simp only [List.setIfInBounds_toArray,List.set_cons_succ,List.set_cons_zero])) x4
 have X4 : Ext w w4:=Ext.tr ((X3).sc2 _) x4
 replace o0:=hid (o0.out.chg (Chg.trans ((Chg.refl (fun g => g = w.heap.size + 2) _).sc rfl _) (x4.chg _)) (fun g hg q => by have h1:=hg.1;have hq3 : g = w.heap.size + 2:=q;omega))
 replace o1:=hid (o1.out.chg (Chg.trans ((Chg.refl (fun g => g = w.heap.size + 2) _).sc rfl _) (x4.chg _)) (fun g hg q => by have h1:=hg.1;have hq3 : g = w.heap.size + 2:=q;omega))
 replace o2:=hid (o2.out.chg (Chg.trans ((Chg.refl (fun g => g = w.heap.size + 2) _).sc rfl _) (x4.chg _)) (fun g hg q => by have h1:=hg.1;have hq3 : g = w.heap.size + 2:=q;omega))
 replace o3 : Hid (OwS w4 (fun g => w3.heap.size ≤ g ∧ g < w4.heap.size) 3 1 B3 n3 d3 (ints x.order_)):=o3.out.mono (fun g _ hg => by have h1:=hg.1;have h2:=hg.2;constructor <;> (try simp at h1) <;> omega)
 clear x4
 have ca4_8 : w4.cell? ⟨w.heap.size,8,none⟩ = some (.slice A4 n4 c4):=ba4.out.cell 8
 have co4_7 : w4.cell? ⟨w.heap.size + 2,7,none⟩ = some (.slice none 0 0):=bo4.out.cell 7
 have fo4_7 : w4.frozen? ⟨w.heap.size + 2,7,none⟩ = false:=bo4.out.frozen 7
 go_wp2_with fail
 refine (toRowS_any _ _ _ _ _ S (H4.out.ext ((X4).sc2 _)) n_4).mono ?_
 rintro e w5 ⟨B4,d4,rfl,o4,x5⟩
 have K4 : Hid (n4 ≤ d4):=own_cap o4
 replace o4:=hid (OwS.of_own o4)
 have z5 : w.heap.size + 3 ≤ w5.heap.size:=by have h:=x5.size;(try simp at h);omega
 have y5 : w4.heap.size ≤ w5.heap.size:=by have h:=x5.size;(try simp at h);exact h
 have ba5 : Hid (Bx w5 (w.heap.size) 147 #[.int .i64 x.rv_,.int .i64 x.clock_,.int .i64 x.owner_,.bool x.lost_,.slice A0 n0 c0,.slice A1 n1 c1,.slice A2 n2 c2,.slice A3 n3 c3,.slice A4 n4 c4,.slice A5 n5 c5]):=Bx.ext ((ba4.out).far2 _) x5
 have br5 : Hid (Bx w5 (w.heap.size + 1) 95 #[.int .i64 0,.int .i64 0,.int .i64 0,.bool false,.slice none 0 0,.slice none 0 0,.slice none 0 0,.slice none 0 0,.slice none 0 0,.slice none 0 0]):=Bx.ext ((br4.out).far2 _) x5
 have bo5 : Hid (Bx w5 (w.heap.size + 2) 95 #[.int .i64 x.rv_,.int .i64 x.clock_,.int .i64 x.owner_,.bool x.lost_,.slice B0 n0 d0,.slice B1 n1 d1,.slice B2 n2 d2,.slice B3 n3 d3,.slice none 0 0,.slice none 0 0]):=Bx.ext (((bo4.out).set_ _ _).cast (by first|rfl|simp only [List.setIfInBounds_toArray,List.set_cons_succ,List.set_cons_zero])) x5
 have X5 : Ext w w5:=Ext.tr ((X4).sc2 _) x5
 replace o0:=hid (o0.out.chg (Chg.trans ((Chg.refl (fun g => g = w.heap.size + 2) _).sc rfl _) (x5.chg _)) (fun g hg q => by have h1:=hg.1;have hq3 : g = w.heap.size + 2:=q;omega))
 replace o1:=hid (o1.out.chg (Chg.trans ((Chg.refl (fun g => g = w.heap.size + 2) _).sc rfl _) (x5.chg _)) (fun g hg q => by have h1:=hg.1;have hq3 : g = w.heap.size + 2:=q;omega))
 replace o2:=hid (o2.out.chg (Chg.trans ((Chg.refl (fun g => g = w.heap.size + 2) _).sc rfl _) (x5.chg _)) (fun g hg q => by have h1:=hg.1;have hq3 : g = w.heap.size + 2:=q;omega))
 replace o3:=hid (o3.out.chg (Chg.trans ((Chg.refl (fun g => g = w.heap.size + 2) _).sc rfl _) (x5.chg _)) (fun g hg q => by have h1:=hg.1;have hq3 : g = w.heap.size + 2:=q;omega))
 replace o4 : Hid (OwS w5 (fun g => w4.heap.size ≤ g ∧ g < w5.heap.size) 239 2 B4 n4 d4 (x.reads_.flatMap Row.cells)):=o4.out.mono (fun g _ hg => by have h1:=hg.1;have h2:=hg.2;constructor <;> (try simp at h1) <;> omega)
 clear x5
 have ca5_9 : w5.cell? ⟨w.heap.size,9,none⟩ = some (.slice A5 n5 c5):=ba5.out.cell 9
 have co5_8 : w5.cell? ⟨w.heap.size + 2,8,none⟩ = some (.slice none 0 0):=bo5.out.cell 8
 have fo5_8 : w5.frozen? ⟨w.heap.size + 2,8,none⟩ = false:=bo5.out.frozen 8
 go_wp2_with fail
 refine (toKidRunS_any _ _ _ x.kids_ _ S (SlR.ext KidRun.R_good H5.out ((X5).sc2 _)) n_5 W_5).mono ?_
 rintro e w6 ⟨B5,d5,rfl,o5,x6⟩
 replace o5:=hid o5
 have z6 : w.heap.size + 3 ≤ w6.heap.size:=by have h:=x6.size;(try simp at h);omega
 have y6 : w5.heap.size ≤ w6.heap.size:=by have h:=x6.size;(try simp at h);exact h
 have ba6 : Hid (Bx w6 (w.heap.size) 147 #[.int .i64 x.rv_,.int .i64 x.clock_,.int .i64 x.owner_,.bool x.lost_,.slice A0 n0 c0,.slice A1 n1 c1,.slice A2 n2 c2,.slice A3 n3 c3,.slice A4 n4 c4,.slice A5 n5 c5]):=Bx.ext ((ba5.out).far2 _) x6
 have br6 : Hid (Bx w6 (w.heap.size + 1) 95 #[.int .i64 0,.int .i64 0,.int .i64 0,.bool false,.slice none 0 0,.slice none 0 0,.slice none 0 0,.slice none 0 0,.slice none 0 0,.slice none 0 0]):=Bx.ext ((br5.out).far2 _) x6
 have bo6 : Hid (Bx w6 (w.heap.size + 2) 95 #[.int .i64 x.rv_,.int .i64 x.clock_,.int .i64 x.owner_,.bool x.lost_,.slice B0 n0 d0,.slice B1 n1 d1,.slice B2 n2 d2,.slice B3 n3 d3,.slice B4 n4 d4,.slice none 0 0]):=Bx.ext (((bo5.out).set_ _ _).cast (by first|rfl|simp only [List.setIfInBounds_toArray,List.set_cons_succ,List.set_cons_zero])) x6
 have X6 : Ext w w6:=Ext.tr ((X5).sc2 _) x6
 replace o0:=hid (o0.out.chg (Chg.trans ((Chg.refl (fun g => g = w.heap.size + 2) _).sc rfl _) (x6.chg _)) (fun g hg q => by have h1:=hg.1;have hq3 : g = w.heap.size + 2:=q;omega))
 replace o1:=hid (o1.out.chg (Chg.trans ((Chg.refl (fun g => g = w.heap.size + 2) _).sc rfl _) (x6.chg _)) (fun g hg q => by have h1:=hg.1;have hq3 : g = w.heap.size + 2:=q;omega))
 replace o2:=hid (o2.out.chg (Chg.trans ((Chg.refl (fun g => g = w.heap.size + 2) _).sc rfl _) (x6.chg _)) (fun g hg q => by have h1:=hg.1;have hq3 : g = w.heap.size + 2:=q;omega))
 replace o3:=hid (o3.out.chg (Chg.trans ((Chg.refl (fun g => g = w.heap.size + 2) _).sc rfl _) (x6.chg _)) (fun g hg q => by have h1:=hg.1;have hq3 : g = w.heap.size + 2:=q;omega))
 replace o4:=hid (o4.out.chg (Chg.trans ((Chg.refl (fun g => g = w.heap.size + 2) _).sc rfl _) (x6.chg _)) (fun g hg q => by have h1:=hg.1;have hq3 : g = w.heap.size + 2:=q;omega))
 replace o5 : Hid (SlW KidRun.W 248 15 w6 (fun g => w5.heap.size ≤ g ∧ g < w6.heap.size) B5 n5 d5 x.kids_):=o5.out.mono KidRun.W_good (fun g hg => by have h1:=hg.1;have h2:=hg.2;constructor <;> (try simp at h1) <;> omega)
 clear x6
 have co6_0 : w6.cell? ⟨w.heap.size + 2,0,none⟩ = some (.int .i64 x.rv_):=bo6.out.cell 0
 have co6_1 : w6.cell? ⟨w.heap.size + 2,1,none⟩ = some (.int .i64 x.clock_):=bo6.out.cell 1
 have co6_2 : w6.cell? ⟨w.heap.size + 2,2,none⟩ = some (.int .i64 x.owner_):=bo6.out.cell 2
 have co6_3 : w6.cell? ⟨w.heap.size + 2,3,none⟩ = some (.bool x.lost_):=bo6.out.cell 3
 have co6_4 : w6.cell? ⟨w.heap.size + 2,4,none⟩ = some (.slice B0 n0 d0):=bo6.out.cell 4
 have co6_5 : w6.cell? ⟨w.heap.size + 2,5,none⟩ = some (.slice B1 n1 d1):=bo6.out.cell 5
 have co6_6 : w6.cell? ⟨w.heap.size + 2,6,none⟩ = some (.slice B2 n2 d2):=bo6.out.cell 6
 have co6_7 : w6.cell? ⟨w.heap.size + 2,7,none⟩ = some (.slice B3 n3 d3):=bo6.out.cell 7
 have co6_8 : w6.cell? ⟨w.heap.size + 2,8,none⟩ = some (.slice B4 n4 d4):=bo6.out.cell 8
 have co6_9 : w6.cell? ⟨w.heap.size + 2,9,none⟩ = some (.slice none 0 0):=bo6.out.cell 9
 have fo6_9 : w6.frozen? ⟨w.heap.size + 2,9,none⟩ = false:=bo6.out.frozen 9
 have cr6_0 : w6.cell? ⟨w.heap.size + 1,0,none⟩ = some (.int .i64 0):=br6.out.cell 0
 have fr6_0 : w6.frozen? ⟨w.heap.size + 1,0,none⟩ = false:=br6.out.frozen 0
 have cr6_1 : w6.cell? ⟨w.heap.size + 1,1,none⟩ = some (.int .i64 0):=br6.out.cell 1
 have fr6_1 : w6.frozen? ⟨w.heap.size + 1,1,none⟩ = false:=br6.out.frozen 1
 have cr6_2 : w6.cell? ⟨w.heap.size + 1,2,none⟩ = some (.int .i64 0):=br6.out.cell 2
 have fr6_2 : w6.frozen? ⟨w.heap.size + 1,2,none⟩ = false:=br6.out.frozen 2
 have cr6_3 : w6.cell? ⟨w.heap.size + 1,3,none⟩ = some (.bool false):=br6.out.cell 3
 have fr6_3 : w6.frozen? ⟨w.heap.size + 1,3,none⟩ = false:=br6.out.frozen 3
 have cr6_4 : w6.cell? ⟨w.heap.size + 1,4,none⟩ = some (.slice none 0 0):=br6.out.cell 4
 have fr6_4 : w6.frozen? ⟨w.heap.size + 1,4,none⟩ = false:=br6.out.frozen 4
 have cr6_5 : w6.cell? ⟨w.heap.size + 1,5,none⟩ = some (.slice none 0 0):=br6.out.cell 5
 have fr6_5 : w6.frozen? ⟨w.heap.size + 1,5,none⟩ = false:=br6.out.frozen 5
 have cr6_6 : w6.cell? ⟨w.heap.size + 1,6,none⟩ = some (.slice none 0 0):=br6.out.cell 6
 have fr6_6 : w6.frozen? ⟨w.heap.size + 1,6,none⟩ = false:=br6.out.frozen 6
 have cr6_7 : w6.cell? ⟨w.heap.size + 1,7,none⟩ = some (.slice none 0 0):=br6.out.cell 7
 have fr6_7 : w6.frozen? ⟨w.heap.size + 1,7,none⟩ = false:=br6.out.frozen 7
 have cr6_8 : w6.cell? ⟨w.heap.size + 1,8,none⟩ = some (.slice none 0 0):=br6.out.cell 8
 have fr6_8 : w6.frozen? ⟨w.heap.size + 1,8,none⟩ = false:=br6.out.frozen 8
 have cr6_9 : w6.cell? ⟨w.heap.size + 1,9,none⟩ = some (.slice none 0 0):=br6.out.cell 9
 have fr6_9 : w6.frozen? ⟨w.heap.size + 1,9,none⟩ = false:=br6.out.frozen 9
 go_wp2
 refine bodyPost_ret (v:=.agg #[.int .i64 x.rv_,.int .i64 x.clock_,.int .i64 x.owner_,.bool x.lost_,.slice B0 n0 d0,.slice B1 n1 d1,.slice B2 n2 d2,.slice B3 n3 d3,.slice B4 n4 d4,.slice B5 n5 d5]) (by simp [results,Tryz.results147,go_sem,cr6_0,cr6_1,cr6_2,cr6_3,cr6_4,cr6_5,cr6_6,cr6_7,cr6_8,cr6_9]) rfl ⟨[.int .i64 x.rv_,.int .i64 x.clock_,.int .i64 x.owner_,.bool x.lost_,.slice B0 n0 d0,.slice B1 n1 d1,.slice B2 n2 d2,.slice B3 n3 d3,.slice B4 n4 d4,.slice B5 n5 d5],rfl,?_,?_⟩
 ·refine (?_ : ∀ wz,Chg (fun g => g = w.heap.size + 2 ∨ g = w.heap.size + 1) w6 wz → Family.W wz (fun g => w.heap.size ≤ g ∧ g < wz.heap.size) [.int .i64 x.rv_,.int .i64 x.clock_,.int .i64 x.owner_,.bool x.lost_,.slice B0 n0 d0,.slice B1 n1 d1,.slice B2 n2 d2,.slice B3 n3 d3,.slice B4 n4 d4,.slice B5 n5 d5] x) _ ((((((((((((Chg.refl (fun g => g = w.heap.size + 2 ∨ g = w.heap.size + 1) _).sc2 _).sc2 _).sc2 _).sc2 _).sc2 _).sc2 _).sc2 _).sc2 _).sc2 _).sc2 _).sc2 _)
  intro wz cc
  have zz:=cc.size
  exact ⟨B0,n0,d0,B1,n1,d1,B2,n2,d2,B3,n3,d3,B4,n4,d4,B5,n5,d5,lb [w1.heap.size,w2.heap.size,w3.heap.size,w4.heap.size,w5.heap.size,w6.heap.size],rfl,⟨K0.out,mh0,(o0.out.chg cc (fun g hg q => by have h1:=hg.1;have hq3 : g = w.heap.size + 2 ∨ g = w.heap.size + 1:=q;omega)).mono (fun g _ hg => ⟨⟨by have h1:=hg.1;omega,by have h2:=hg.2;omega⟩,by have h1:=hg.1;have h2:=hg.2;exact lb_here (by omega)⟩)⟩,⟨K1.out,mh1,(o1.out.chg cc (fun g hg q => by have h1:=hg.1;have hq3 : g = w.heap.size + 2 ∨ g = w.heap.size + 1:=q;omega)).mono (fun g _ hg => ⟨⟨by have h1:=hg.1;omega,by have h2:=hg.2;omega⟩,by have h1:=hg.1;have h2:=hg.2;exact lb_next (by omega) (lb_here (by omega))⟩)⟩,⟨K2.out,mh2,(o2.out.chg cc (fun g hg q => by have h1:=hg.1;have hq3 : g = w.heap.size + 2 ∨ g = w.heap.size + 1:=q;omega)).mono (fun g _ hg => ⟨⟨by have h1:=hg.1;omega,by have h2:=hg.2;omega⟩,by have h1:=hg.1;have h2:=hg.2;exact lb_next (by omega) (lb_next (by omega) (lb_here (by omega)))⟩)⟩,⟨K3.out,mh3,(o3.out.chg cc (fun g hg q => by have h1:=hg.1;have hq3 : g = w.heap.size + 2 ∨ g = w.heap.size + 1:=q;omega)).mono (fun g _ hg => ⟨⟨by have h1:=hg.1;omega,by have h2:=hg.2;omega⟩,by have h1:=hg.1;have h2:=hg.2;exact lb_next (by omega) (lb_next (by omega) (lb_next (by omega) (lb_here (by omega))))⟩)⟩,⟨K4.out,mh4,(o4.out.chg cc (fun g hg q => by have h1:=hg.1;have hq3 : g = w.heap.size + 2 ∨ g = w.heap.size + 1:=q;omega)).mono (fun g _ hg => ⟨⟨by have h1:=hg.1;omega,by have h2:=hg.2;omega⟩,by have h1:=hg.1;have h2:=hg.2;exact lb_next (by omega) (lb_next (by omega) (lb_next (by omega) (lb_next (by omega) (lb_here (by omega)))))⟩)⟩,⟨SlW.cap o5.out,mh5,(o5.out.chg KidRun.W_good cc (fun g hg q => by have h1:=hg.1;have hq3 : g = w.heap.size + 2 ∨ g = w.heap.size + 1:=q;omega)).mono KidRun.W_good (fun g hg => ⟨⟨by have h1:=hg.1;omega,by have h2:=hg.2;omega⟩,by have h1:=hg.1;have h2:=hg.2;exact lb_next (by omega) (lb_next (by omega) (lb_next (by omega) (lb_next (by omega) (lb_next (by omega) (lb_here (by omega))))))⟩)⟩⟩
 ·exact (((((((((((X6).sc2 _).sc2 _).sc2 _).sc2 _).sc2 _).sc2 _).sc2 _).sc2 _).sc2 _).sc2 _).sc2 _
set_option maxRecDepth 8000 in
theorem eqFamily_same (x : Family) (cs cs' : List Value) (w : World) (S S' : Nat → Prop) (h : Family.R w S cs x) (u : Family.R w S' cs' x) :
  Calls Tryz.prog 168 #[.agg cs.toArray,.agg cs'.toArray] w fun e w' => e = .returned (.bool true) ∧ Ext w w':=by
 obtain ⟨A0,n0,c0,A1,n1,c1,A2,n2,c2,A3,n3,c3,A4,n4,c4,A5,n5,c5,rfl,⟨kh0,mh0,h0⟩,⟨kh1,mh1,h1⟩,⟨kh2,mh2,h2⟩,⟨kh3,mh3,h3⟩,⟨kh4,mh4,h4⟩,⟨kh5,mh5,h5⟩⟩:=h
 obtain ⟨B0,p0,d0,B1,p1,d1,B2,p2,d2,B3,p3,d3,B4,p4,d4,B5,p5,d5,rfl,⟨ku0,mu0,u0⟩,⟨ku1,mu1,u1⟩,⟨ku2,mu2,u2⟩,⟨ku3,mu3,u3⟩,⟨ku4,mu4,u4⟩,⟨ku5,mu5,u5⟩⟩:=u
 obtain rfl : n0 = p0:=by have a:=h0.len;have b:=u0.len;omega
 obtain rfl : n1 = p1:=by have a:=h1.flen Row.cells_length (by omega);have b:=u1.flen Row.cells_length (by omega);omega
 obtain rfl : n2 = p2:=by have a:=h2.flen Entry.cells_length (by omega);have b:=u2.flen Entry.cells_length (by omega);omega
 obtain rfl : n3 = p3:=by have a:=h3.len;have b:=u3.len;omega
 obtain rfl : n4 = p4:=by have a:=h4.flen Row.cells_length (by omega);have b:=u4.flen Row.cells_length (by omega);omega
 obtain rfl : n5 = p5:=by have a:=h5.1;have b:=u5.1;omega
 have H0:=hid h0
 have U0:=hid u0
 have H1:=hid h1
 have U1:=hid u1
 have H2:=hid h2
 have U2:=hid u2
 have H3:=hid h3
 have U3:=hid u3
 have H4:=hid h4
 have U4:=hid u4
 have H5:=hid h5
 have U5:=hid u5
 clear h0 u0 h1 u1 h2 u2 h3 u3 h4 u4 h5 u5
 show Calls Tryz.prog _ #[.agg #[.int .i64 x.rv_,.int .i64 x.clock_,.int .i64 x.owner_,.bool x.lost_,.slice A0 n0 c0,.slice A1 n1 c1,.slice A2 n2 c2,.slice A3 n3 c3,.slice A4 n4 c4,.slice A5 n5 c5],.agg #[.int .i64 x.rv_,.int .i64 x.clock_,.int .i64 x.owner_,.bool x.lost_,.slice B0 n0 d0,.slice B1 n1 d1,.slice B2 n2 d2,.slice B3 n3 d3,.slice B4 n4 d4,.slice B5 n5 d5]] w _
 go_enter Tryz.func168,Tryz.ntmps168
 go_wp2_with fail
 refine (eqIntS_same _ _ _ _ _ _ _ S S' (H0.out.ext (((Ext.refl' w).al _).al _)) (U0.out.ext (((Ext.refl' w).al _).al _)) mh0).mono ?_
 rintro e w1 ⟨rfl,x1⟩
 have z1 : w.heap.size + 2 ≤ w1.heap.size:=by have h:=x1.size;(try simp at h);omega
 have ba1 : Hid (Bx w1 (w.heap.size) 95 #[.int .i64 x.rv_,.int .i64 x.clock_,.int .i64 x.owner_,.bool x.lost_,.slice A0 n0 c0,.slice A1 n1 c1,.slice A2 n2 c2,.slice A3 n3 c3,.slice A4 n4 c4,.slice A5 n5 c5]):=Bx.ext ((Bx.new' _ _ _ rfl).al _) x1
 have bb1 : Hid (Bx w1 (w.heap.size + 1) 95 #[.int .i64 x.rv_,.int .i64 x.clock_,.int .i64 x.owner_,.bool x.lost_,.slice B0 n0 d0,.slice B1 n1 d1,.slice B2 n2 d2,.slice B3 n3 d3,.slice B4 n4 d4,.slice B5 n5 d5]):=Bx.ext (Bx.new' _ _ _ (by simp)) x1
 have X1 : Ext w w1:=Ext.tr (((Ext.refl' w).al _).al _) x1
 clear x1
 have ca1_5 : w1.cell? ⟨w.heap.size,5,none⟩ = some (.slice A1 n1 c1):=ba1.out.cell 5
 have cb1_5 : w1.cell? ⟨w.heap.size + 1,5,none⟩ = some (.slice B1 n1 d1):=bb1.out.cell 5
 go_wp2_with fail
 refine (eqRowS_same _ _ _ _ _ _ _ S S' (H1.out.ext (X1)) (U1.out.ext (X1)) mh1).mono ?_
 rintro e w2 ⟨rfl,x2⟩
 have z2 : w.heap.size + 2 ≤ w2.heap.size:=by have h:=x2.size;(try simp at h);omega
 have ba2 : Hid (Bx w2 (w.heap.size) 95 #[.int .i64 x.rv_,.int .i64 x.clock_,.int .i64 x.owner_,.bool x.lost_,.slice A0 n0 c0,.slice A1 n1 c1,.slice A2 n2 c2,.slice A3 n3 c3,.slice A4 n4 c4,.slice A5 n5 c5]):=Bx.ext (ba1.out) x2
 have bb2 : Hid (Bx w2 (w.heap.size + 1) 95 #[.int .i64 x.rv_,.int .i64 x.clock_,.int .i64 x.owner_,.bool x.lost_,.slice B0 n0 d0,.slice B1 n1 d1,.slice B2 n2 d2,.slice B3 n3 d3,.slice B4 n4 d4,.slice B5 n5 d5]):=Bx.ext (bb1.out) x2
 have X2 : Ext w w2:=Ext.tr (X1) x2
 clear x2
 have ca2_6 : w2.cell? ⟨w.heap.size,6,none⟩ = some (.slice A2 n2 c2):=ba2.out.cell 6
 have cb2_6 : w2.cell? ⟨w.heap.size + 1,6,none⟩ = some (.slice B2 n2 d2):=bb2.out.cell 6
 go_wp2_with fail
 refine (eqEntryS_same _ _ _ _ _ _ _ S S' (H2.out.ext (X2)) (U2.out.ext (X2)) mh2).mono ?_
 rintro e w3 ⟨rfl,x3⟩
 have z3 : w.heap.size + 2 ≤ w3.heap.size:=by have h:=x3.size;(try simp at h);omega
 have ba3 : Hid (Bx w3 (w.heap.size) 95 #[.int .i64 x.rv_,.int .i64 x.clock_,.int .i64 x.owner_,.bool x.lost_,.slice A0 n0 c0,.slice A1 n1 c1,.slice A2 n2 c2,.slice A3 n3 c3,.slice A4 n4 c4,.slice A5 n5 c5]):=Bx.ext (ba2.out) x3
 have bb3 : Hid (Bx w3 (w.heap.size + 1) 95 #[.int .i64 x.rv_,.int .i64 x.clock_,.int .i64 x.owner_,.bool x.lost_,.slice B0 n0 d0,.slice B1 n1 d1,.slice B2 n2 d2,.slice B3 n3 d3,.slice B4 n4 d4,.slice B5 n5 d5]):=Bx.ext (bb2.out) x3
 have X3 : Ext w w3:=Ext.tr (X2) x3
 clear x3
 have ca3_7 : w3.cell? ⟨w.heap.size,7,none⟩ = some (.slice A3 n3 c3):=ba3.out.cell 7
 have cb3_7 : w3.cell? ⟨w.heap.size + 1,7,none⟩ = some (.slice B3 n3 d3):=bb3.out.cell 7
 go_wp2_with fail
 refine (eqIntS_same _ _ _ _ _ _ _ S S' (H3.out.ext (X3)) (U3.out.ext (X3)) mh3).mono ?_
 rintro e w4 ⟨rfl,x4⟩
 have z4 : w.heap.size + 2 ≤ w4.heap.size:=by have h:=x4.size;(try simp at h);omega
 have ba4 : Hid (Bx w4 (w.heap.size) 95 #[.int .i64 x.rv_,.int .i64 x.clock_,.int .i64 x.owner_,.bool x.lost_,.slice A0 n0 c0,.slice A1 n1 c1,.slice A2 n2 c2,.slice A3 n3 c3,.slice A4 n4 c4,.slice A5 n5 c5]):=Bx.ext (ba3.out) x4
 have bb4 : Hid (Bx w4 (w.heap.size + 1) 95 #[.int .i64 x.rv_,.int .i64 x.clock_,.int .i64 x.owner_,.bool x.lost_,.slice B0 n0 d0,.slice B1 n1 d1,.slice B2 n2 d2,.slice B3 n3 d3,.slice B4 n4 d4,.slice B5 n5 d5]):=Bx.ext (bb3.out) x4
 have X4 : Ext w w4:=Ext.tr (X3) x4
 clear x4
 have ca4_8 : w4.cell? ⟨w.heap.size,8,none⟩ = some (.slice A4 n4 c4):=ba4.out.cell 8
 have cb4_8 : w4.cell? ⟨w.heap.size + 1,8,none⟩ = some (.slice B4 n4 d4):=bb4.out.cell 8
 go_wp2_with fail
 refine (eqRowS_same _ _ _ _ _ _ _ S S' (H4.out.ext (X4)) (U4.out.ext (X4)) mh4).mono ?_
 rintro e w5 ⟨rfl,x5⟩
 have z5 : w.heap.size + 2 ≤ w5.heap.size:=by have h:=x5.size;(try simp at h);omega
 have ba5 : Hid (Bx w5 (w.heap.size) 95 #[.int .i64 x.rv_,.int .i64 x.clock_,.int .i64 x.owner_,.bool x.lost_,.slice A0 n0 c0,.slice A1 n1 c1,.slice A2 n2 c2,.slice A3 n3 c3,.slice A4 n4 c4,.slice A5 n5 c5]):=Bx.ext (ba4.out) x5
 have bb5 : Hid (Bx w5 (w.heap.size + 1) 95 #[.int .i64 x.rv_,.int .i64 x.clock_,.int .i64 x.owner_,.bool x.lost_,.slice B0 n0 d0,.slice B1 n1 d1,.slice B2 n2 d2,.slice B3 n3 d3,.slice B4 n4 d4,.slice B5 n5 d5]):=Bx.ext (bb4.out) x5
 have X5 : Ext w w5:=Ext.tr (X4) x5
 clear x5
 have ca5_9 : w5.cell? ⟨w.heap.size,9,none⟩ = some (.slice A5 n5 c5):=ba5.out.cell 9
 have cb5_9 : w5.cell? ⟨w.heap.size + 1,9,none⟩ = some (.slice B5 n5 d5):=bb5.out.cell 9
 go_wp2_with fail
 refine (eqKidRunS_same _ _ _ _ _ x.kids_ _ S S' (SlR.ext KidRun.R_good H5.out (X5)) (SlR.ext KidRun.R_good U5.out (X5)) mh5).mono ?_
 rintro e w6 ⟨rfl,x6⟩
 have z6 : w.heap.size + 2 ≤ w6.heap.size:=by have h:=x6.size;(try simp at h);omega
 have ba6 : Hid (Bx w6 (w.heap.size) 95 #[.int .i64 x.rv_,.int .i64 x.clock_,.int .i64 x.owner_,.bool x.lost_,.slice A0 n0 c0,.slice A1 n1 c1,.slice A2 n2 c2,.slice A3 n3 c3,.slice A4 n4 c4,.slice A5 n5 c5]):=Bx.ext (ba5.out) x6
 have bb6 : Hid (Bx w6 (w.heap.size + 1) 95 #[.int .i64 x.rv_,.int .i64 x.clock_,.int .i64 x.owner_,.bool x.lost_,.slice B0 n0 d0,.slice B1 n1 d1,.slice B2 n2 d2,.slice B3 n3 d3,.slice B4 n4 d4,.slice B5 n5 d5]):=Bx.ext (bb5.out) x6
 have X6 : Ext w w6:=Ext.tr (X5) x6
 clear x6
 go_wp2
 go_ret
 exact ⟨rfl,X6⟩

end Go.Proofs.YtoegjiigaoanbaaGreat
namespace Go.Proofs.YtoegjiigaoanbaaGreat
open Go.RowKit Go.Deep
set_option linter.unnecessarySimpa false
set_option maxHeartbeats 400000000
open Go.Lib (hid)

/-! ### Root -/
structure Root where
 phase_ : Int
 tries_ : Int
 spare_ : Int
 pc_ : Int
 rv_ : Int
 newRv_ : Int
 at_ : Int
 fate_ : Int
 stamp_ : Int
 began_ : Int
 ended_ : Int
 doomed_ : Bool
 regs_ : List Int
 reads_ : List Row
 writes_ : List Row
 marks_ : List Mark
 undos_ : List Undo
 order_ : List Int
 busy_ : Bool
 probe_ : Probe
 commit_ : Commit
 fam_ : Family
deriving Inhabited
abbrev zRt (x : Root) (v0 v1 v2 v3 v4 v5 v6 v7 v8 v9 v10 v11 v12 v13 : Value) : Array Value:=(List.toArray ((.int .i64 x.phase_)::(.int .i64 x.tries_)::(.int .i64 x.spare_)::(.int .i64 x.pc_)::(.int .i64 x.rv_)::(.int .i64 x.newRv_)::(.int .i64 x.at_)::(.int .i64 x.fate_)::(.int .i64 x.stamp_)::(.int .i64 x.began_)::(.int .i64 x.ended_)::(.bool x.doomed_)::(v0)::(v1)::(v2)::(v3)::(v4)::(v5)::(.bool x.busy_)::(.int .i64 x.probe_.cell_)::(.int .i64 x.probe_.phase_)::(.int .i64 x.probe_.ver_)::(.int .i64 x.probe_.val_)::(.int .i64 x.commit_.who_)::(.int .i64 x.commit_.rv_)::(.int .i64 x.commit_.phase_)::(.int .i64 x.commit_.at_)::(.int .i64 x.commit_.wv_)::(v6)::(v7)::(.int .i64 x.fam_.rv_)::(.int .i64 x.fam_.clock_)::(.int .i64 x.fam_.owner_)::(.bool x.fam_.lost_)::(v8)::(v9)::(v10)::(v11)::(v12)::(v13)::[]))
abbrev zRz : Array Value:=(List.toArray ((.int .i64 0)::(.int .i64 0)::(.int .i64 0)::(.int .i64 0)::(.int .i64 0)::(.int .i64 0)::(.int .i64 0)::(.int .i64 0)::(.int .i64 0)::(.int .i64 0)::(.int .i64 0)::(.bool false)::(.slice none 0 0)::(.slice none 0 0)::(.slice none 0 0)::(.slice none 0 0)::(.slice none 0 0)::(.slice none 0 0)::(.bool false)::(.int .i64 0)::(.int .i64 0)::(.int .i64 0)::(.int .i64 0)::(.int .i64 0)::(.int .i64 0)::(.int .i64 0)::(.int .i64 0)::(.int .i64 0)::(.slice none 0 0)::(.slice none 0 0)::(.int .i64 0)::(.int .i64 0)::(.int .i64 0)::(.bool false)::(.slice none 0 0)::(.slice none 0 0)::(.slice none 0 0)::(.slice none 0 0)::(.slice none 0 0)::(.slice none 0 0)::[]))
def Root.wt (x : Root) : Nat:=x.regs_.length + x.reads_.length + x.writes_.length + wtl Mark.wt x.marks_ + x.undos_.length + x.order_.length + Commit.wt x.commit_ + Family.wt x.fam_
def Root.R (w : World) (S : Nat → Prop) (cs : List Value) (x : Root) : Prop:=∃ (A0 : Option Addr) (n0 c0 : Nat) (A1 : Option Addr) (n1 c1 : Nat) (A2 : Option Addr) (n2 c2 : Nat) (A3 : Option Addr) (n3 c3 : Nat) (A4 : Option Addr) (n4 c4 : Nat) (A5 : Option Addr) (n5 c5 : Nat) (v6 : List Value) (v7 : List Value),cs = ((.int .i64 x.phase_)::(.int .i64 x.tries_)::(.int .i64 x.spare_)::(.int .i64 x.pc_)::(.int .i64 x.rv_)::(.int .i64 x.newRv_)::(.int .i64 x.at_)::(.int .i64 x.fate_)::(.int .i64 x.stamp_)::(.int .i64 x.began_)::(.int .i64 x.ended_)::(.bool x.doomed_)::(.slice A0 n0 c0)::(.slice A1 n1 c1)::(.slice A2 n2 c2)::(.slice A3 n3 c3)::(.slice A4 n4 c4)::(.slice A5 n5 c5)::(.bool x.busy_)::(.int .i64 x.probe_.cell_)::(.int .i64 x.probe_.phase_)::(.int .i64 x.probe_.ver_)::(.int .i64 x.probe_.val_)::[]) ++ v6 ++ v7 ∧ (n0 ≤ c0 ∧ n0 ≤ 9223372036854775807 ∧ Sl w S 1 A0 n0 (ints x.regs_)) ∧ (n1 ≤ c1 ∧ n1 ≤ 9223372036854775807 ∧ Sl w S 2 A1 n1 (x.reads_.flatMap Row.cells)) ∧ (n2 ≤ c2 ∧ n2 ≤ 9223372036854775807 ∧ Sl w S 2 A2 n2 (x.writes_.flatMap Row.cells)) ∧ (n3 ≤ c3 ∧ n3 ≤ 9223372036854775807 ∧ SlR Mark.R 5 w S A3 n3 x.marks_) ∧ (n4 ≤ c4 ∧ n4 ≤ 9223372036854775807 ∧ Sl w S 3 A4 n4 (x.undos_.flatMap Undo.cells)) ∧ (n5 ≤ c5 ∧ n5 ≤ 9223372036854775807 ∧ Sl w S 1 A5 n5 (ints x.order_)) ∧ Commit.R w S v6 x.commit_ ∧ Family.R w S v7 x.fam_
def Root.W (w : World) (S : Nat → Prop) (cs : List Value) (x : Root) : Prop:=∃ (A0 : Option Addr) (n0 c0 : Nat) (A1 : Option Addr) (n1 c1 : Nat) (A2 : Option Addr) (n2 c2 : Nat) (A3 : Option Addr) (n3 c3 : Nat) (A4 : Option Addr) (n4 c4 : Nat) (A5 : Option Addr) (n5 c5 : Nat) (v6 : List Value) (v7 : List Value) (lab : Nat → Nat),cs = ((.int .i64 x.phase_)::(.int .i64 x.tries_)::(.int .i64 x.spare_)::(.int .i64 x.pc_)::(.int .i64 x.rv_)::(.int .i64 x.newRv_)::(.int .i64 x.at_)::(.int .i64 x.fate_)::(.int .i64 x.stamp_)::(.int .i64 x.began_)::(.int .i64 x.ended_)::(.bool x.doomed_)::(.slice A0 n0 c0)::(.slice A1 n1 c1)::(.slice A2 n2 c2)::(.slice A3 n3 c3)::(.slice A4 n4 c4)::(.slice A5 n5 c5)::(.bool x.busy_)::(.int .i64 x.probe_.cell_)::(.int .i64 x.probe_.phase_)::(.int .i64 x.probe_.ver_)::(.int .i64 x.probe_.val_)::[]) ++ v6 ++ v7 ∧ (n0 ≤ c0 ∧ n0 ≤ 9223372036854775807 ∧ OwS w (fun g => S g ∧ lab g = 0) 3 1 A0 n0 c0 (ints x.regs_)) ∧ (n1 ≤ c1 ∧ n1 ≤ 9223372036854775807 ∧ OwS w (fun g => S g ∧ lab g = 1) 239 2 A1 n1 c1 (x.reads_.flatMap Row.cells)) ∧ (n2 ≤ c2 ∧ n2 ≤ 9223372036854775807 ∧ OwS w (fun g => S g ∧ lab g = 2) 239 2 A2 n2 c2 (x.writes_.flatMap Row.cells)) ∧ (n3 ≤ c3 ∧ n3 ≤ 9223372036854775807 ∧ SlW Mark.W 241 5 w (fun g => S g ∧ lab g = 3) A3 n3 c3 x.marks_) ∧ (n4 ≤ c4 ∧ n4 ≤ 9223372036854775807 ∧ OwS w (fun g => S g ∧ lab g = 4) 243 3 A4 n4 c4 (x.undos_.flatMap Undo.cells)) ∧ (n5 ≤ c5 ∧ n5 ≤ 9223372036854775807 ∧ OwS w (fun g => S g ∧ lab g = 5) 3 1 A5 n5 c5 (ints x.order_)) ∧ Commit.W w (fun g => S g ∧ lab g = 6) v6 x.commit_ ∧ Family.W w (fun g => S g ∧ lab g = 7) v7 x.fam_
theorem Root.R_good : Good Root.R 40:=⟨fun {_ _ _ _} h => by
  obtain ⟨A0,n0,c0,A1,n1,c1,A2,n2,c2,A3,n3,c3,A4,n4,c4,A5,n5,c5,v6,v7,rfl,⟨kh0,mh0,h0⟩,⟨kh1,mh1,h1⟩,⟨kh2,mh2,h2⟩,⟨kh3,mh3,h3⟩,⟨kh4,mh4,h4⟩,⟨kh5,mh5,h5⟩,h6,h7⟩:=h
  simp [Commit.R_good.len h6,Family.R_good.len h7],
 fun {_ _ _ _ _ _} h k hd => by
  obtain ⟨A0,n0,c0,A1,n1,c1,A2,n2,c2,A3,n3,c3,A4,n4,c4,A5,n5,c5,v6,v7,rfl,⟨kh0,mh0,h0⟩,⟨kh1,mh1,h1⟩,⟨kh2,mh2,h2⟩,⟨kh3,mh3,h3⟩,⟨kh4,mh4,h4⟩,⟨kh5,mh5,h5⟩,h6,h7⟩:=h
  exact ⟨_,_,_,_,_,_,_,_,_,_,_,_,_,_,_,_,_,_,_,_,rfl,⟨kh0,mh0,h0.chg k hd⟩,⟨kh1,mh1,h1.chg k hd⟩,⟨kh2,mh2,h2.chg k hd⟩,⟨kh3,mh3,h3.chg Mark.R_good k hd⟩,⟨kh4,mh4,h4.chg k hd⟩,⟨kh5,mh5,h5.chg k hd⟩,Commit.R_good.chg h6 k hd,Family.R_good.chg h7 k hd⟩,
 fun {_ _ _ _ _} h hs => by
  obtain ⟨A0,n0,c0,A1,n1,c1,A2,n2,c2,A3,n3,c3,A4,n4,c4,A5,n5,c5,v6,v7,rfl,⟨kh0,mh0,h0⟩,⟨kh1,mh1,h1⟩,⟨kh2,mh2,h2⟩,⟨kh3,mh3,h3⟩,⟨kh4,mh4,h4⟩,⟨kh5,mh5,h5⟩,h6,h7⟩:=h
  exact ⟨_,_,_,_,_,_,_,_,_,_,_,_,_,_,_,_,_,_,_,_,rfl,⟨kh0,mh0,h0.mono hs⟩,⟨kh1,mh1,h1.mono hs⟩,⟨kh2,mh2,h2.mono hs⟩,⟨kh3,mh3,h3.mono Mark.R_good hs⟩,⟨kh4,mh4,h4.mono hs⟩,⟨kh5,mh5,h5.mono hs⟩,Commit.R_good.mono h6 hs,Family.R_good.mono h7 hs⟩⟩
theorem Root.W_good : Good Root.W 40:=⟨fun {_ _ _ _} h => by
  obtain ⟨A0,n0,c0,A1,n1,c1,A2,n2,c2,A3,n3,c3,A4,n4,c4,A5,n5,c5,v6,v7,lab,rfl,⟨kh0,mh0,h0⟩,⟨kh1,mh1,h1⟩,⟨kh2,mh2,h2⟩,⟨kh3,mh3,h3⟩,⟨kh4,mh4,h4⟩,⟨kh5,mh5,h5⟩,h6,h7⟩:=h
  simp [Commit.W_good.len h6,Family.W_good.len h7],
 fun {_ _ _ _ _ _} h k hd => by
  obtain ⟨A0,n0,c0,A1,n1,c1,A2,n2,c2,A3,n3,c3,A4,n4,c4,A5,n5,c5,v6,v7,lab,rfl,⟨kh0,mh0,h0⟩,⟨kh1,mh1,h1⟩,⟨kh2,mh2,h2⟩,⟨kh3,mh3,h3⟩,⟨kh4,mh4,h4⟩,⟨kh5,mh5,h5⟩,h6,h7⟩:=h
  exact ⟨_,_,_,_,_,_,_,_,_,_,_,_,_,_,_,_,_,_,_,_,lab,rfl,⟨kh0,mh0,h0.chg k fun i hi => hd i hi.1⟩,⟨kh1,mh1,h1.chg k fun i hi => hd i hi.1⟩,⟨kh2,mh2,h2.chg k fun i hi => hd i hi.1⟩,⟨kh3,mh3,h3.chg Mark.W_good k fun i hi => hd i hi.1⟩,⟨kh4,mh4,h4.chg k fun i hi => hd i hi.1⟩,⟨kh5,mh5,h5.chg k fun i hi => hd i hi.1⟩,Commit.W_good.chg h6 k fun i hi => hd i hi.1,Family.W_good.chg h7 k fun i hi => hd i hi.1⟩,
 fun {_ _ _ _ _} h hs => by
  obtain ⟨A0,n0,c0,A1,n1,c1,A2,n2,c2,A3,n3,c3,A4,n4,c4,A5,n5,c5,v6,v7,lab,rfl,⟨kh0,mh0,h0⟩,⟨kh1,mh1,h1⟩,⟨kh2,mh2,h2⟩,⟨kh3,mh3,h3⟩,⟨kh4,mh4,h4⟩,⟨kh5,mh5,h5⟩,h6,h7⟩:=h
  exact ⟨_,_,_,_,_,_,_,_,_,_,_,_,_,_,_,_,_,_,_,_,lab,rfl,⟨kh0,mh0,h0.mono fun i _ hi => ⟨hs i hi.1,hi.2⟩⟩,⟨kh1,mh1,h1.mono fun i _ hi => ⟨hs i hi.1,hi.2⟩⟩,⟨kh2,mh2,h2.mono fun i _ hi => ⟨hs i hi.1,hi.2⟩⟩,⟨kh3,mh3,h3.mono Mark.W_good fun i hi => ⟨hs i hi.1,hi.2⟩⟩,⟨kh4,mh4,h4.mono fun i _ hi => ⟨hs i hi.1,hi.2⟩⟩,⟨kh5,mh5,h5.mono fun i _ hi => ⟨hs i hi.1,hi.2⟩⟩,Commit.W_good.mono h6 fun i hi => ⟨hs i hi.1,hi.2⟩,Family.W_good.mono h7 fun i hi => ⟨hs i hi.1,hi.2⟩⟩⟩
theorem Root.W_R {w : World} {S : Nat → Prop} {cs : List Value} {x : Root} (h : Root.W w S cs x) : Root.R w S cs x:=by
 obtain ⟨A0,n0,c0,A1,n1,c1,A2,n2,c2,A3,n3,c3,A4,n4,c4,A5,n5,c5,v6,v7,lab,rfl,⟨kh0,mh0,h0⟩,⟨kh1,mh1,h1⟩,⟨kh2,mh2,h2⟩,⟨kh3,mh3,h3⟩,⟨kh4,mh4,h4⟩,⟨kh5,mh5,h5⟩,h6,h7⟩:=h
 exact ⟨_,_,_,_,_,_,_,_,_,_,_,_,_,_,_,_,_,_,_,_,rfl,⟨kh0,mh0,h0.sl.mono fun i hi => hi.1⟩,⟨kh1,mh1,h1.sl.mono fun i hi => hi.1⟩,⟨kh2,mh2,h2.sl.mono fun i hi => hi.1⟩,⟨kh3,mh3,(h3.slr Mark.R_good Mark.W_R).mono Mark.R_good fun i hi => hi.1⟩,⟨kh4,mh4,h4.sl.mono fun i hi => hi.1⟩,⟨kh5,mh5,h5.sl.mono fun i hi => hi.1⟩,Commit.R_good.mono (Commit.W_R h6) fun i hi => hi.1,Family.R_good.mono (Family.W_R h7) fun i hi => hi.1⟩
theorem Root.R_cells {w : World} {S : Nat → Prop} {cs : List Value} {x : Root} (h : Root.R w S cs x) : ∃ (A0 : Option Addr) (n0 c0 : Nat) (A1 : Option Addr) (n1 c1 : Nat) (A2 : Option Addr) (n2 c2 : Nat) (A3 : Option Addr) (n3 c3 : Nat) (A4 : Option Addr) (n4 c4 : Nat) (A5 : Option Addr) (n5 c5 : Nat) (A6 : Option Addr) (n6 c6 : Nat) (A7 : Option Addr) (n7 c7 : Nat) (A8 : Option Addr) (n8 c8 : Nat) (A9 : Option Addr) (n9 c9 : Nat) (A10 : Option Addr) (n10 c10 : Nat) (A11 : Option Addr) (n11 c11 : Nat) (A12 : Option Addr) (n12 c12 : Nat) (A13 : Option Addr) (n13 c13 : Nat),cs = ((.int .i64 x.phase_)::(.int .i64 x.tries_)::(.int .i64 x.spare_)::(.int .i64 x.pc_)::(.int .i64 x.rv_)::(.int .i64 x.newRv_)::(.int .i64 x.at_)::(.int .i64 x.fate_)::(.int .i64 x.stamp_)::(.int .i64 x.began_)::(.int .i64 x.ended_)::(.bool x.doomed_)::(.slice A0 n0 c0)::(.slice A1 n1 c1)::(.slice A2 n2 c2)::(.slice A3 n3 c3)::(.slice A4 n4 c4)::(.slice A5 n5 c5)::(.bool x.busy_)::(.int .i64 x.probe_.cell_)::(.int .i64 x.probe_.phase_)::(.int .i64 x.probe_.ver_)::(.int .i64 x.probe_.val_)::(.int .i64 x.commit_.who_)::(.int .i64 x.commit_.rv_)::(.int .i64 x.commit_.phase_)::(.int .i64 x.commit_.at_)::(.int .i64 x.commit_.wv_)::(.slice A6 n6 c6)::(.slice A7 n7 c7)::(.int .i64 x.fam_.rv_)::(.int .i64 x.fam_.clock_)::(.int .i64 x.fam_.owner_)::(.bool x.fam_.lost_)::(.slice A8 n8 c8)::(.slice A9 n9 c9)::(.slice A10 n10 c10)::(.slice A11 n11 c11)::(.slice A12 n12 c12)::(.slice A13 n13 c13)::[]):=by
 obtain ⟨A0,n0,c0,A1,n1,c1,A2,n2,c2,A3,n3,c3,A4,n4,c4,A5,n5,c5,v6,v7,rfl,⟨kh0,mh0,h0⟩,⟨kh1,mh1,h1⟩,⟨kh2,mh2,h2⟩,⟨kh3,mh3,h3⟩,⟨kh4,mh4,h4⟩,⟨kh5,mh5,h5⟩,h6,h7⟩:=h
 obtain ⟨P6_0,p6_0,q6_0,P6_1,p6_1,q6_1,rfl⟩:=Commit.R_cells h6
 obtain ⟨P7_0,p7_0,q7_0,P7_1,p7_1,q7_1,P7_2,p7_2,q7_2,P7_3,p7_3,q7_3,P7_4,p7_4,q7_4,P7_5,p7_5,q7_5,rfl⟩:=Family.R_cells h7
 exact ⟨A0,n0,c0,A1,n1,c1,A2,n2,c2,A3,n3,c3,A4,n4,c4,A5,n5,c5,P6_0,p6_0,q6_0,P6_1,p6_1,q6_1,P7_0,p7_0,q7_0,P7_1,p7_1,q7_1,P7_2,p7_2,q7_2,P7_3,p7_3,q7_3,P7_4,p7_4,q7_4,P7_5,p7_5,q7_5,rfl⟩
theorem Root.W_cells {w : World} {S : Nat → Prop} {cs : List Value} {x : Root} (h : Root.W w S cs x) : ∃ (A0 : Option Addr) (n0 c0 : Nat) (A1 : Option Addr) (n1 c1 : Nat) (A2 : Option Addr) (n2 c2 : Nat) (A3 : Option Addr) (n3 c3 : Nat) (A4 : Option Addr) (n4 c4 : Nat) (A5 : Option Addr) (n5 c5 : Nat) (A6 : Option Addr) (n6 c6 : Nat) (A7 : Option Addr) (n7 c7 : Nat) (A8 : Option Addr) (n8 c8 : Nat) (A9 : Option Addr) (n9 c9 : Nat) (A10 : Option Addr) (n10 c10 : Nat) (A11 : Option Addr) (n11 c11 : Nat) (A12 : Option Addr) (n12 c12 : Nat) (A13 : Option Addr) (n13 c13 : Nat),cs = ((.int .i64 x.phase_)::(.int .i64 x.tries_)::(.int .i64 x.spare_)::(.int .i64 x.pc_)::(.int .i64 x.rv_)::(.int .i64 x.newRv_)::(.int .i64 x.at_)::(.int .i64 x.fate_)::(.int .i64 x.stamp_)::(.int .i64 x.began_)::(.int .i64 x.ended_)::(.bool x.doomed_)::(.slice A0 n0 c0)::(.slice A1 n1 c1)::(.slice A2 n2 c2)::(.slice A3 n3 c3)::(.slice A4 n4 c4)::(.slice A5 n5 c5)::(.bool x.busy_)::(.int .i64 x.probe_.cell_)::(.int .i64 x.probe_.phase_)::(.int .i64 x.probe_.ver_)::(.int .i64 x.probe_.val_)::(.int .i64 x.commit_.who_)::(.int .i64 x.commit_.rv_)::(.int .i64 x.commit_.phase_)::(.int .i64 x.commit_.at_)::(.int .i64 x.commit_.wv_)::(.slice A6 n6 c6)::(.slice A7 n7 c7)::(.int .i64 x.fam_.rv_)::(.int .i64 x.fam_.clock_)::(.int .i64 x.fam_.owner_)::(.bool x.fam_.lost_)::(.slice A8 n8 c8)::(.slice A9 n9 c9)::(.slice A10 n10 c10)::(.slice A11 n11 c11)::(.slice A12 n12 c12)::(.slice A13 n13 c13)::[]):=by
 obtain ⟨A0,n0,c0,A1,n1,c1,A2,n2,c2,A3,n3,c3,A4,n4,c4,A5,n5,c5,v6,v7,lab,rfl,⟨kh0,mh0,h0⟩,⟨kh1,mh1,h1⟩,⟨kh2,mh2,h2⟩,⟨kh3,mh3,h3⟩,⟨kh4,mh4,h4⟩,⟨kh5,mh5,h5⟩,h6,h7⟩:=h
 obtain ⟨P6_0,p6_0,q6_0,P6_1,p6_1,q6_1,rfl⟩:=Commit.W_cells h6
 obtain ⟨P7_0,p7_0,q7_0,P7_1,p7_1,q7_1,P7_2,p7_2,q7_2,P7_3,p7_3,q7_3,P7_4,p7_4,q7_4,P7_5,p7_5,q7_5,rfl⟩:=Family.W_cells h7
 exact ⟨A0,n0,c0,A1,n1,c1,A2,n2,c2,A3,n3,c3,A4,n4,c4,A5,n5,c5,P6_0,p6_0,q6_0,P6_1,p6_1,q6_1,P7_0,p7_0,q7_0,P7_1,p7_1,q7_1,P7_2,p7_2,q7_2,P7_3,p7_3,q7_3,P7_4,p7_4,q7_4,P7_5,p7_5,q7_5,rfl⟩

end Go.Proofs.YtoegjiigaoanbaaGreat
namespace Go.Proofs.YtoegjiigaoanbaaGreat
open Go.RowKit Go.Deep
set_option linter.unnecessarySimpa false
set_option maxHeartbeats 400000000
open Go.Lib (hid)

set_option maxRecDepth 8000 in
theorem opens_Root : Opens Tryz.prog 149 (fun w cs (x : Root) => Root.R w (fun _ => True) cs x):=by
 intro H enc w base spare held fuel cs x h
 obtain ⟨xs,n,_,_,hlen,hxl,hf⟩:=DataW.trod_struct Tryz.underlying149 h
 rw [show Tryz.prog.cellsOf 149 = 40 from by kernel_rfl] at hlen
 have hxl' : xs.length = 22:=hxl
 have h0 : DataW.trod enc Tryz.prog w base spare held n 3 ((cs.drop 0).take (Tryz.prog.cellsOf 3)) = xs[0]?:=hf 0 _ rfl
 rw [show Tryz.prog.cellsOf 3 = 1 from by kernel_rfl,List.getElem?_eq_getElem (show 0 < xs.length by omega)] at h0
 obtain ⟨f0,e0,-,-⟩:=DataW.trod_int Tryz.underlying3 h0
 have h1 : DataW.trod enc Tryz.prog w base spare held n 3 ((cs.drop 1).take (Tryz.prog.cellsOf 3)) = xs[1]?:=hf 1 _ rfl
 rw [show Tryz.prog.cellsOf 3 = 1 from by kernel_rfl,List.getElem?_eq_getElem (show 1 < xs.length by omega)] at h1
 obtain ⟨f1,e1,-,-⟩:=DataW.trod_int Tryz.underlying3 h1
 have h2 : DataW.trod enc Tryz.prog w base spare held n 3 ((cs.drop 2).take (Tryz.prog.cellsOf 3)) = xs[2]?:=hf 2 _ rfl
 rw [show Tryz.prog.cellsOf 3 = 1 from by kernel_rfl,List.getElem?_eq_getElem (show 2 < xs.length by omega)] at h2
 obtain ⟨f2,e2,-,-⟩:=DataW.trod_int Tryz.underlying3 h2
 have h3 : DataW.trod enc Tryz.prog w base spare held n 3 ((cs.drop 3).take (Tryz.prog.cellsOf 3)) = xs[3]?:=hf 3 _ rfl
 rw [show Tryz.prog.cellsOf 3 = 1 from by kernel_rfl,List.getElem?_eq_getElem (show 3 < xs.length by omega)] at h3
 obtain ⟨f3,e3,-,-⟩:=DataW.trod_int Tryz.underlying3 h3
 have h4 : DataW.trod enc Tryz.prog w base spare held n 3 ((cs.drop 4).take (Tryz.prog.cellsOf 3)) = xs[4]?:=hf 4 _ rfl
 rw [show Tryz.prog.cellsOf 3 = 1 from by kernel_rfl,List.getElem?_eq_getElem (show 4 < xs.length by omega)] at h4
 obtain ⟨f4,e4,-,-⟩:=DataW.trod_int Tryz.underlying3 h4
 have h5 : DataW.trod enc Tryz.prog w base spare held n 3 ((cs.drop 5).take (Tryz.prog.cellsOf 3)) = xs[5]?:=hf 5 _ rfl
 rw [show Tryz.prog.cellsOf 3 = 1 from by kernel_rfl,List.getElem?_eq_getElem (show 5 < xs.length by omega)] at h5
 obtain ⟨f5,e5,-,-⟩:=DataW.trod_int Tryz.underlying3 h5
 have h6 : DataW.trod enc Tryz.prog w base spare held n 3 ((cs.drop 6).take (Tryz.prog.cellsOf 3)) = xs[6]?:=hf 6 _ rfl
 rw [show Tryz.prog.cellsOf 3 = 1 from by kernel_rfl,List.getElem?_eq_getElem (show 6 < xs.length by omega)] at h6
 obtain ⟨f6,e6,-,-⟩:=DataW.trod_int Tryz.underlying3 h6
 have h7 : DataW.trod enc Tryz.prog w base spare held n 3 ((cs.drop 7).take (Tryz.prog.cellsOf 3)) = xs[7]?:=hf 7 _ rfl
 rw [show Tryz.prog.cellsOf 3 = 1 from by kernel_rfl,List.getElem?_eq_getElem (show 7 < xs.length by omega)] at h7
 obtain ⟨f7,e7,-,-⟩:=DataW.trod_int Tryz.underlying3 h7
 have h8 : DataW.trod enc Tryz.prog w base spare held n 3 ((cs.drop 8).take (Tryz.prog.cellsOf 3)) = xs[8]?:=hf 8 _ rfl
 rw [show Tryz.prog.cellsOf 3 = 1 from by kernel_rfl,List.getElem?_eq_getElem (show 8 < xs.length by omega)] at h8
 obtain ⟨f8,e8,-,-⟩:=DataW.trod_int Tryz.underlying3 h8
 have h9 : DataW.trod enc Tryz.prog w base spare held n 3 ((cs.drop 9).take (Tryz.prog.cellsOf 3)) = xs[9]?:=hf 9 _ rfl
 rw [show Tryz.prog.cellsOf 3 = 1 from by kernel_rfl,List.getElem?_eq_getElem (show 9 < xs.length by omega)] at h9
 obtain ⟨f9,e9,-,-⟩:=DataW.trod_int Tryz.underlying3 h9
 have h10 : DataW.trod enc Tryz.prog w base spare held n 3 ((cs.drop 10).take (Tryz.prog.cellsOf 3)) = xs[10]?:=hf 10 _ rfl
 rw [show Tryz.prog.cellsOf 3 = 1 from by kernel_rfl,List.getElem?_eq_getElem (show 10 < xs.length by omega)] at h10
 obtain ⟨f10,e10,-,-⟩:=DataW.trod_int Tryz.underlying3 h10
 have h11 : DataW.trod enc Tryz.prog w base spare held n 4 ((cs.drop 11).take (Tryz.prog.cellsOf 4)) = xs[11]?:=hf 11 _ rfl
 rw [show Tryz.prog.cellsOf 4 = 1 from by kernel_rfl,List.getElem?_eq_getElem (show 11 < xs.length by omega)] at h11
 obtain ⟨f11,e11,-⟩:=DataW.trod_bool Tryz.underlying4 h11
 have h12 : DataW.trod enc Tryz.prog w base spare held n 22 ((cs.drop 12).take (Tryz.prog.cellsOf 22)) = xs[12]?:=hf 12 _ rfl
 rw [show Tryz.prog.cellsOf 22 = 1 from by kernel_rfl,List.getElem?_eq_getElem (show 12 < xs.length by omega)] at h12
 obtain ⟨f12,A12,n12,c12,e12,g12,g12',-,-,s12⟩:=opens_ints Tryz.underlying22 Tryz.underlying3 (by kernel_rfl) H enc w base spare held n _ _ h12
 have h13 : DataW.trod enc Tryz.prog w base spare held n 138 ((cs.drop 13).take (Tryz.prog.cellsOf 138)) = xs[13]?:=hf 13 _ rfl
 rw [show Tryz.prog.cellsOf 138 = 1 from by kernel_rfl,List.getElem?_eq_getElem (show 13 < xs.length by omega)] at h13
 obtain ⟨f13,A13,n13,c13,e13,g13,g13',-,-,s13⟩:=opens_flat Tryz.underlying138 (by kernel_rfl) (by omega) Row.cells_length opens_Row H enc w base spare held n _ _ h13
 have h14 : DataW.trod enc Tryz.prog w base spare held n 138 ((cs.drop 14).take (Tryz.prog.cellsOf 138)) = xs[14]?:=hf 14 _ rfl
 rw [show Tryz.prog.cellsOf 138 = 1 from by kernel_rfl,List.getElem?_eq_getElem (show 14 < xs.length by omega)] at h14
 obtain ⟨f14,A14,n14,c14,e14,g14,g14',-,-,s14⟩:=opens_flat Tryz.underlying138 (by kernel_rfl) (by omega) Row.cells_length opens_Row H enc w base spare held n _ _ h14
 have h15 : DataW.trod enc Tryz.prog w base spare held n 139 ((cs.drop 15).take (Tryz.prog.cellsOf 139)) = xs[15]?:=hf 15 _ rfl
 rw [show Tryz.prog.cellsOf 139 = 1 from by kernel_rfl,List.getElem?_eq_getElem (show 15 < xs.length by omega)] at h15
 obtain ⟨f15,A15,n15,c15,e15,g15,g15',s15⟩:=opens_deep Mark.R_good Tryz.underlying139 (by kernel_rfl) (by omega) opens_Mark H enc w base spare held n _ _ h15
 have h16 : DataW.trod enc Tryz.prog w base spare held n 140 ((cs.drop 16).take (Tryz.prog.cellsOf 140)) = xs[16]?:=hf 16 _ rfl
 rw [show Tryz.prog.cellsOf 140 = 1 from by kernel_rfl,List.getElem?_eq_getElem (show 16 < xs.length by omega)] at h16
 obtain ⟨f16,A16,n16,c16,e16,g16,g16',-,-,s16⟩:=opens_flat Tryz.underlying140 (by kernel_rfl) (by omega) Undo.cells_length opens_Undo H enc w base spare held n _ _ h16
 have h17 : DataW.trod enc Tryz.prog w base spare held n 22 ((cs.drop 17).take (Tryz.prog.cellsOf 22)) = xs[17]?:=hf 17 _ rfl
 rw [show Tryz.prog.cellsOf 22 = 1 from by kernel_rfl,List.getElem?_eq_getElem (show 17 < xs.length by omega)] at h17
 obtain ⟨f17,A17,n17,c17,e17,g17,g17',-,-,s17⟩:=opens_ints Tryz.underlying22 Tryz.underlying3 (by kernel_rfl) H enc w base spare held n _ _ h17
 have h18 : DataW.trod enc Tryz.prog w base spare held n 4 ((cs.drop 18).take (Tryz.prog.cellsOf 4)) = xs[18]?:=hf 18 _ rfl
 rw [show Tryz.prog.cellsOf 4 = 1 from by kernel_rfl,List.getElem?_eq_getElem (show 18 < xs.length by omega)] at h18
 obtain ⟨f18,e18,-⟩:=DataW.trod_bool Tryz.underlying4 h18
 have h19 : DataW.trod enc Tryz.prog w base spare held n 141 ((cs.drop 19).take (Tryz.prog.cellsOf 141)) = xs[19]?:=hf 19 _ rfl
 rw [show Tryz.prog.cellsOf 141 = 4 from by kernel_rfl,List.getElem?_eq_getElem (show 19 < xs.length by omega)] at h19
 obtain ⟨f19,e19,-⟩:=opens_Probe H enc w base spare held n _ _ h19
 simp only [Probe.cells] at e19
 have h20 : DataW.trod enc Tryz.prog w base spare held n 143 ((cs.drop 23).take (Tryz.prog.cellsOf 143)) = xs[20]?:=hf 20 _ rfl
 rw [show Tryz.prog.cellsOf 143 = 7 from by kernel_rfl,List.getElem?_eq_getElem (show 20 < xs.length by omega)] at h20
 obtain ⟨f20,r20⟩:=opens_Commit H enc w base spare held n _ _ h20
 have h21 : DataW.trod enc Tryz.prog w base spare held n 147 ((cs.drop 30).take (Tryz.prog.cellsOf 147)) = xs[21]?:=hf 21 _ rfl
 rw [show Tryz.prog.cellsOf 147 = 10 from by kernel_rfl,List.getElem?_eq_getElem (show 21 < xs.length by omega)] at h21
 obtain ⟨f21,r21⟩:=opens_Family H enc w base spare held n _ _ h21
 clear h0 h1 h2 h3 h4 h5 h6 h7 h8 h9 h10 h11 h12 h13 h14 h15 h16 h17 h18 h19 h20 h21 hf h hxl hxl'
 rcases cs with _|⟨q0,cs⟩
 ·simp at hlen
 rcases cs with _|⟨q1,cs⟩
 ·simp at hlen
 rcases cs with _|⟨q2,cs⟩
 ·simp at hlen
 rcases cs with _|⟨q3,cs⟩
 ·simp at hlen
 rcases cs with _|⟨q4,cs⟩
 ·simp at hlen
 rcases cs with _|⟨q5,cs⟩
 ·simp at hlen
 rcases cs with _|⟨q6,cs⟩
 ·simp at hlen
 rcases cs with _|⟨q7,cs⟩
 ·simp at hlen
 rcases cs with _|⟨q8,cs⟩
 ·simp at hlen
 rcases cs with _|⟨q9,cs⟩
 ·simp at hlen
 rcases cs with _|⟨q10,cs⟩
 ·simp at hlen
 rcases cs with _|⟨q11,cs⟩
 ·simp at hlen
 rcases cs with _|⟨q12,cs⟩
 ·simp at hlen
 rcases cs with _|⟨q13,cs⟩
 ·simp at hlen
 rcases cs with _|⟨q14,cs⟩
 ·simp at hlen
 rcases cs with _|⟨q15,cs⟩
 ·simp at hlen
 rcases cs with _|⟨q16,cs⟩
 ·simp at hlen
 rcases cs with _|⟨q17,cs⟩
 ·simp at hlen
 rcases cs with _|⟨q18,cs⟩
 ·simp at hlen
 rcases cs with _|⟨q19,cs⟩
 ·simp at hlen
 rcases cs with _|⟨q20,cs⟩
 ·simp at hlen
 rcases cs with _|⟨q21,cs⟩
 ·simp at hlen
 rcases cs with _|⟨q22,cs⟩
 ·simp at hlen
 rcases cs with _|⟨q23,cs⟩
 ·simp at hlen
 rcases cs with _|⟨q24,cs⟩
 ·simp at hlen
 rcases cs with _|⟨q25,cs⟩
 ·simp at hlen
 rcases cs with _|⟨q26,cs⟩
 ·simp at hlen
 rcases cs with _|⟨q27,cs⟩
 ·simp at hlen
 rcases cs with _|⟨q28,cs⟩
 ·simp at hlen
 rcases cs with _|⟨q29,cs⟩
 ·simp at hlen
 rcases cs with _|⟨q30,cs⟩
 ·simp at hlen
 rcases cs with _|⟨q31,cs⟩
 ·simp at hlen
 rcases cs with _|⟨q32,cs⟩
 ·simp at hlen
 rcases cs with _|⟨q33,cs⟩
 ·simp at hlen
 rcases cs with _|⟨q34,cs⟩
 ·simp at hlen
 rcases cs with _|⟨q35,cs⟩
 ·simp at hlen
 rcases cs with _|⟨q36,cs⟩
 ·simp at hlen
 rcases cs with _|⟨q37,cs⟩
 ·simp at hlen
 rcases cs with _|⟨q38,cs⟩
 ·simp at hlen
 rcases cs with _|⟨q39,cs⟩
 ·simp at hlen
 rcases cs with _|⟨qz,cs⟩
 rotate_left
 ·simp at hlen
 ·skip
  simp only [List.drop_succ_cons,List.drop_zero,List.take_succ_cons,List.take_zero,List.cons.injEq,and_true] at e0 e1 e2 e3 e4 e5 e6 e7 e8 e9 e10 e11 e12 e13 e14 e15 e16 e17 e18 e19
  simp only [List.drop_succ_cons,List.drop_zero,List.take_succ_cons,List.take_zero] at r20 r21
  subst e0
  subst e1
  subst e2
  subst e3
  subst e4
  subst e5
  subst e6
  subst e7
  subst e8
  subst e9
  subst e10
  subst e11
  subst e12
  subst e13
  subst e14
  subst e15
  subst e16
  subst e17
  subst e18
  obtain ⟨e19_0,e19_1,e19_2,e19_3⟩:=e19
  subst e19_0 e19_1 e19_2 e19_3
  exact ⟨⟨f0,f1,f2,f3,f4,f5,f6,f7,f8,f9,f10,f11,f12,f13,f14,f15,f16,f17,f18,f19,f20,f21⟩,_,_,_,_,_,_,_,_,_,_,_,_,_,_,_,_,_,_,_,_,rfl,⟨g12,Nat.le_trans g12 g12',s12⟩,⟨g13,Nat.le_trans g13 g13',s13⟩,⟨g14,Nat.le_trans g14 g14',s14⟩,⟨g15,Nat.le_trans g15 g15',s15⟩,⟨g16,Nat.le_trans g16 g16',s16⟩,⟨g17,Nat.le_trans g17 g17',s17⟩,r20,r21⟩

end Go.Proofs.YtoegjiigaoanbaaGreat
