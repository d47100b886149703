/- The laws' helpers on Mem, Shelf, Wrote. No condition but sizes. The laws' helpers on slices of Root. No condition but sizes. Slices of Root compared. No condition but sizes. The laws' helpers on World. No condition but sizes. -/
import Derived.Test.YtoegjiigaoanbaaGreatS03
namespace Go.Proofs.YtoegjiigaoanbaaGreat
open Go.RowKit Go.Deep
set_option linter.unnecessarySimpa false
set_option maxHeartbeats 400000000
open Go.Lib (hid)

/-! ### Mem -/
structure Mem where
 clock_ : Int
 cells_ : List Word
deriving Inhabited
def Mem.wt (x : Mem) : Nat:=x.cells_.length
def Mem.R (w : World) (S : Nat → Prop) (cs : List Value) (x : Mem) : Prop:=∃ (A0 : Option Addr) (n0 c0 : Nat),cs = [.int .i64 x.clock_,.slice A0 n0 c0] ∧ (n0 ≤ c0 ∧ n0 ≤ 9223372036854775807 ∧ Sl w S 3 A0 n0 (x.cells_.flatMap Word.cells))
def Mem.W (w : World) (S : Nat → Prop) (cs : List Value) (x : Mem) : Prop:=∃ (A0 : Option Addr) (n0 c0 : Nat) (lab : Nat → Nat),cs = [.int .i64 x.clock_,.slice A0 n0 c0] ∧ (n0 ≤ c0 ∧ n0 ≤ 9223372036854775807 ∧ OwS w (fun g => S g ∧ lab g = 0) 193 3 A0 n0 c0 (x.cells_.flatMap Word.cells))
theorem Mem.R_good : Good Mem.R 2:=⟨fun {_ _ _ _} h => by
  obtain ⟨A0,n0,c0,rfl,⟨kh0,mh0,h0⟩⟩:=h
  rfl,
 fun {_ _ _ _ _ _} h k hd => by
  obtain ⟨A0,n0,c0,rfl,⟨kh0,mh0,h0⟩⟩:=h
  exact ⟨_,_,_,rfl,⟨kh0,mh0,h0.chg k hd⟩⟩,
 fun {_ _ _ _ _} h hs => by
  obtain ⟨A0,n0,c0,rfl,⟨kh0,mh0,h0⟩⟩:=h
  exact ⟨_,_,_,rfl,⟨kh0,mh0,h0.mono hs⟩⟩⟩
theorem Mem.W_good : Good Mem.W 2:=⟨fun {_ _ _ _} h => by
  obtain ⟨A0,n0,c0,lab,rfl,⟨kh0,mh0,h0⟩⟩:=h
  rfl,
 fun {_ _ _ _ _ _} h k hd => by
  obtain ⟨A0,n0,c0,lab,rfl,⟨kh0,mh0,h0⟩⟩:=h
  exact ⟨_,_,_,lab,rfl,⟨kh0,mh0,h0.chg k fun i hi => hd i hi.1⟩⟩,
 fun {_ _ _ _ _} h hs => by
  obtain ⟨A0,n0,c0,lab,rfl,⟨kh0,mh0,h0⟩⟩:=h
  exact ⟨_,_,_,lab,rfl,⟨kh0,mh0,h0.mono fun i _ hi => ⟨hs i hi.1,hi.2⟩⟩⟩⟩
theorem Mem.W_R {w : World} {S : Nat → Prop} {cs : List Value} {x : Mem} (h : Mem.W w S cs x) : Mem.R w S cs x:=by
 obtain ⟨A0,n0,c0,lab,rfl,⟨kh0,mh0,h0⟩⟩:=h
 exact ⟨_,_,_,rfl,⟨kh0,mh0,h0.sl.mono fun i hi => hi.1⟩⟩
theorem Mem.R_cells {w : World} {S : Nat → Prop} {cs : List Value} {x : Mem} (h : Mem.R w S cs x) : ∃ (A0 : Option Addr) (n0 c0 : Nat),cs = [.int .i64 x.clock_,.slice A0 n0 c0]:=by
 obtain ⟨A0,n0,c0,rfl,⟨kh0,mh0,h0⟩⟩:=h
 exact ⟨A0,n0,c0,rfl⟩
theorem Mem.W_cells {w : World} {S : Nat → Prop} {cs : List Value} {x : Mem} (h : Mem.W w S cs x) : ∃ (A0 : Option Addr) (n0 c0 : Nat),cs = [.int .i64 x.clock_,.slice A0 n0 c0]:=by
 obtain ⟨A0,n0,c0,lab,rfl,⟨kh0,mh0,h0⟩⟩:=h
 exact ⟨A0,n0,c0,rfl⟩
set_option maxRecDepth 8000 in
theorem opens_Mem : Opens Tryz.prog 31 (fun w cs (x : Mem) => Mem.R w (fun _ => True) cs x):=by
 intro H enc w base spare held fuel cs x h
 obtain ⟨xs,n,_,_,hlen,hxl,hf⟩:=DataW.trod_struct Tryz.underlying31 h
 rw [show Tryz.prog.cellsOf 31 = 2 from by kernel_rfl] at hlen
 have hxl' : xs.length = 2:=hxl
 have h0 : DataW.trod enc Tryz.prog w base spare held n 3 ((cs.drop 0).take (Tryz.prog.cellsOf 3)) = xs[0]?:=hf 0 _ rfl
 rw [show Tryz.prog.cellsOf 3 = 1 from by kernel_rfl,List.getElem?_eq_getElem (show 0 < xs.length by omega)] at h0
 obtain ⟨f0,e0,-,-⟩:=DataW.trod_int Tryz.underlying3 h0
 have h1 : DataW.trod enc Tryz.prog w base spare held n 29 ((cs.drop 1).take (Tryz.prog.cellsOf 29)) = xs[1]?:=hf 1 _ rfl
 rw [show Tryz.prog.cellsOf 29 = 1 from by kernel_rfl,List.getElem?_eq_getElem (show 1 < xs.length by omega)] at h1
 obtain ⟨f1,A1,n1,c1,e1,g1,g1',-,-,s1⟩:=opens_flat Tryz.underlying29 (by kernel_rfl) (by omega) Word.cells_length opens_Word H enc w base spare held n _ _ h1
 clear h0 h1 hf h hxl hxl'
 match cs,hlen with
 | [q0,q1],_ =>
  simp only [List.drop_succ_cons,List.drop_zero,List.take_succ_cons,List.take_zero,List.cons.injEq,and_true] at e0 e1
  subst e0
  subst e1
  exact ⟨⟨f0,f1⟩,_,_,_,rfl,⟨g1,Nat.le_trans g1 g1',s1⟩⟩
set_option maxRecDepth 8000 in
theorem szMem_any (x : Mem) (cs : List Value) (q : Int) (w : World) (S : Nat → Prop) (h : Mem.R w S cs x) (hq0 : 0 ≤ q) (hq2 : q ≤ 1048576) :
  Calls Tryz.prog 26 #[.agg cs.toArray,.int .i64 q] w fun e w' => ∃ r : Int,e = .returned (.int .i64 r) ∧ Left r q (Mem.wt x) ∧ Ext w w':=by
 obtain ⟨A0,n0,c0,rfl,⟨kh0,mh0,h0⟩⟩:=h
 have H0:=hid h0
 clear h0
 show Calls Tryz.prog _ #[.agg #[.int .i64 x.clock_,.slice A0 n0 c0],.int .i64 q] w _
 go_enter Tryz.func26,Tryz.ntmps26
 go_wp2_with fail
 have L0:=hid (H0.out.flen Word.cells_length (by omega))
 refine (szWordS_any _ _ _ (q) _ hq0 hq2 mh0).mono ?_
 rintro e w1 ⟨rfl,xq⟩
 have x1:=Ext.of_eq xq
 clear xq
 have Q0 : Hid (Left (if (n0 : Int) ≤ q then q - n0 else -1) q (x.cells_.length)):=by show Left _ _ _;rw [L0.out];exact Left.of_if
 generalize (if (n0 : Int) ≤ q then q - n0 else -1) = r0 at Q0
 have X1 : Ext w w1:=Ext.tr (((Ext.refl' w).al _)) x1
 have b1 : Hid (Bx w1 w.heap.size 31 #[.int .i64 x.clock_,.slice A0 n0 c0]):=Bx.ext (Bx.new' _ _ _ rfl) x1
 clear x1
 have R0 : Hid (Left r0 q (x.cells_.length)):=Q0
 by_cases g0 : 0 ≤ r0
 rotate_left
 ·have e0 : r0 = -1:=by have a:=R0.out;unfold Left at a;omega
  subst e0
  clear g0
  go_wp2
  go_ret
  exact ⟨-1,rfl,by have a:=R0.out;unfold Left Mem.wt at *;omega,X1⟩
 have u0 : r0 ≤ 1048576:=by have a:=R0.out;unfold Left at a;omega
 go_wp2
 go_ret
 exact ⟨r0,rfl,R0.out,X1⟩
set_option maxRecDepth 8000 in
theorem toMem_any (x : Mem) (cs : List Value) (w : World) (S : Nat → Prop) (h : Mem.R w S cs x) (hw : Mem.wt x ≤ 1048576) :
  Calls Tryz.prog 37 #[.agg cs.toArray] w fun e w' => ∃ cs',e = .returned (.agg cs'.toArray) ∧ Mem.W w' (fun g => w.heap.size ≤ g ∧ g < w'.heap.size) cs' x ∧ Ext w w':=by
 obtain ⟨A0,n0,c0,rfl,⟨kh0,mh0,h0⟩⟩:=h
 unfold Mem.wt at hw
 have l0:=h0.flen Word.cells_length (by omega)
 have n_0 : n0 ≤ 1048576:=by omega
 have H0:=hid h0
 clear h0 hw l0
 show Calls Tryz.prog _ #[.agg #[.int .i64 x.clock_,.slice A0 n0 c0]] w _
 go_enter Tryz.func37,Tryz.ntmps37
 go_wp2_with fail
 refine (toWordS_any _ _ _ _ _ S (H0.out.ext ((((Ext.refl' w).al _).al _).al _)) n_0).mono ?_
 rintro e w1 ⟨B0,d0,rfl,o0,x1⟩
 have K0 : Hid (n0 ≤ d0):=own_cap o0
 replace o0:=hid (OwS.of_own o0)
 have z1 : w.heap.size + 3 ≤ w1.heap.size:=by have h:=x1.size;(try simp at h);omega
 have ba1 : Hid (Bx w1 (w.heap.size) 31 #[.int .i64 x.clock_,.slice A0 n0 c0]):=Bx.ext (((Bx.new' _ _ _ rfl).al _).al _) x1
 have br1 : Hid (Bx w1 (w.heap.size + 1) 52 #[.int .i64 0,.slice none 0 0]):=Bx.ext ((Bx.new' _ _ _ (by simp)).al _) x1
 have bo1 : Hid (Bx w1 (w.heap.size + 2) 52 #[.int .i64 x.clock_,.slice none 0 0]):=Bx.ext (Bx.new' _ _ _ (by simp)) x1
 have X1 : Ext w w1:=Ext.tr ((((Ext.refl' w).al _).al _).al _) x1
 replace o0 : Hid (OwS w1 (fun g => w.heap.size + 3 ≤ g ∧ g < w1.heap.size) 193 3 B0 n0 d0 (x.cells_.flatMap Word.cells)):=o0.out.mono (fun g _ hg => by have h1:=hg.1;have h2:=hg.2;constructor <;> (try simp at h1) <;> omega)
 clear x1
 have co1_0 : w1.cell? ⟨w.heap.size + 2,0,none⟩ = some (.int .i64 x.clock_):=bo1.out.cell 0
 have co1_1 : w1.cell? ⟨w.heap.size + 2,1,none⟩ = some (.slice none 0 0):=bo1.out.cell 1
 have fo1_1 : w1.frozen? ⟨w.heap.size + 2,1,none⟩ = false:=bo1.out.frozen 1
 have cr1_0 : w1.cell? ⟨w.heap.size + 1,0,none⟩ = some (.int .i64 0):=br1.out.cell 0
 have fr1_0 : w1.frozen? ⟨w.heap.size + 1,0,none⟩ = false:=br1.out.frozen 0
 have cr1_1 : w1.cell? ⟨w.heap.size + 1,1,none⟩ = some (.slice none 0 0):=br1.out.cell 1
 have fr1_1 : w1.frozen? ⟨w.heap.size + 1,1,none⟩ = false:=br1.out.frozen 1
 go_wp2
 refine bodyPost_ret (v:=.agg #[.int .i64 x.clock_,.slice B0 n0 d0]) (by simp [results,Tryz.results37,go_sem,cr1_0,cr1_1]) rfl ⟨[.int .i64 x.clock_,.slice B0 n0 d0],rfl,?_,?_⟩
 ·refine (?_ : ∀ wz,Chg (fun g => g = w.heap.size + 2 ∨ g = w.heap.size + 1) w1 wz → Mem.W wz (fun g => w.heap.size ≤ g ∧ g < wz.heap.size) [.int .i64 x.clock_,.slice B0 n0 d0] x) _ ((((Chg.refl (fun g => g = w.heap.size + 2 ∨ g = w.heap.size + 1) _).sc2 _).sc2 _).sc2 _)
  intro wz cc
  have zz:=cc.size
  exact ⟨B0,n0,d0,lb [w1.heap.size],rfl,⟨K0.out,mh0,(o0.out.chg cc (fun g hg q => by have h1:=hg.1;have hq3 : g = w.heap.size + 2 ∨ g = w.heap.size + 1:=q;omega)).mono (fun g _ hg => ⟨⟨by have h1:=hg.1;omega,by have h2:=hg.2;omega⟩,by have h1:=hg.1;have h2:=hg.2;exact lb_here (by omega)⟩)⟩⟩
 ·exact (((X1).sc2 _).sc2 _).sc2 _
set_option maxRecDepth 8000 in
theorem eqMem_same (x : Mem) (cs cs' : List Value) (w : World) (S S' : Nat → Prop) (h : Mem.R w S cs x) (u : Mem.R w S' cs' x) :
  Calls Tryz.prog 49 #[.agg cs.toArray,.agg cs'.toArray] w fun e w' => e = .returned (.bool true) ∧ Ext w w':=by
 obtain ⟨A0,n0,c0,rfl,⟨kh0,mh0,h0⟩⟩:=h
 obtain ⟨B0,p0,d0,rfl,⟨ku0,mu0,u0⟩⟩:=u
 obtain rfl : n0 = p0:=by have a:=h0.flen Word.cells_length (by omega);have b:=u0.flen Word.cells_length (by omega);omega
 have H0:=hid h0
 have U0:=hid u0
 clear h0 u0
 show Calls Tryz.prog _ #[.agg #[.int .i64 x.clock_,.slice A0 n0 c0],.agg #[.int .i64 x.clock_,.slice B0 n0 d0]] w _
 go_enter Tryz.func49,Tryz.ntmps49
 go_wp2_with fail
 refine (eqWordS_same _ _ _ _ _ _ _ S S' (H0.out.ext (((Ext.refl' w).al _).al _)) (U0.out.ext (((Ext.refl' w).al _).al _)) mh0).mono ?_
 rintro e w1 ⟨rfl,x1⟩
 have z1 : w.heap.size + 2 ≤ w1.heap.size:=by have h:=x1.size;(try simp at h);omega
 have ba1 : Hid (Bx w1 (w.heap.size) 52 #[.int .i64 x.clock_,.slice A0 n0 c0]):=Bx.ext ((Bx.new' _ _ _ rfl).al _) x1
 have bb1 : Hid (Bx w1 (w.heap.size + 1) 52 #[.int .i64 x.clock_,.slice B0 n0 d0]):=Bx.ext (Bx.new' _ _ _ (by simp)) x1
 have X1 : Ext w w1:=Ext.tr (((Ext.refl' w).al _).al _) x1
 clear x1
 go_wp2
 go_ret
 exact ⟨rfl,X1⟩
/-! ### Shelf -/
structure Shelf where
 slots_ : List Int
 count_ : Int
deriving Inhabited
def Shelf.wt (x : Shelf) : Nat:=x.slots_.length
def Shelf.R (w : World) (S : Nat → Prop) (cs : List Value) (x : Shelf) : Prop:=∃ (A0 : Option Addr) (n0 c0 : Nat),cs = [.slice A0 n0 c0,.int .i64 x.count_] ∧ (n0 ≤ c0 ∧ n0 ≤ 9223372036854775807 ∧ Sl w S 1 A0 n0 (ints x.slots_))
def Shelf.W (w : World) (S : Nat → Prop) (cs : List Value) (x : Shelf) : Prop:=∃ (A0 : Option Addr) (n0 c0 : Nat) (lab : Nat → Nat),cs = [.slice A0 n0 c0,.int .i64 x.count_] ∧ (n0 ≤ c0 ∧ n0 ≤ 9223372036854775807 ∧ OwS w (fun g => S g ∧ lab g = 0) 3 1 A0 n0 c0 (ints x.slots_))
theorem Shelf.R_good : Good Shelf.R 2:=⟨fun {_ _ _ _} h => by
  obtain ⟨A0,n0,c0,rfl,⟨kh0,mh0,h0⟩⟩:=h
  rfl,
 fun {_ _ _ _ _ _} h k hd => by
  obtain ⟨A0,n0,c0,rfl,⟨kh0,mh0,h0⟩⟩:=h
  exact ⟨_,_,_,rfl,⟨kh0,mh0,h0.chg k hd⟩⟩,
 fun {_ _ _ _ _} h hs => by
  obtain ⟨A0,n0,c0,rfl,⟨kh0,mh0,h0⟩⟩:=h
  exact ⟨_,_,_,rfl,⟨kh0,mh0,h0.mono hs⟩⟩⟩
theorem Shelf.W_good : Good Shelf.W 2:=⟨fun {_ _ _ _} h => by
  obtain ⟨A0,n0,c0,lab,rfl,⟨kh0,mh0,h0⟩⟩:=h
  rfl,
 fun {_ _ _ _ _ _} h k hd => by
  obtain ⟨A0,n0,c0,lab,rfl,⟨kh0,mh0,h0⟩⟩:=h
  exact ⟨_,_,_,lab,rfl,⟨kh0,mh0,h0.chg k fun i hi => hd i hi.1⟩⟩,
 fun {_ _ _ _ _} h hs => by
  obtain ⟨A0,n0,c0,lab,rfl,⟨kh0,mh0,h0⟩⟩:=h
  exact ⟨_,_,_,lab,rfl,⟨kh0,mh0,h0.mono fun i _ hi => ⟨hs i hi.1,hi.2⟩⟩⟩⟩
theorem Shelf.W_R {w : World} {S : Nat → Prop} {cs : List Value} {x : Shelf} (h : Shelf.W w S cs x) : Shelf.R w S cs x:=by
 obtain ⟨A0,n0,c0,lab,rfl,⟨kh0,mh0,h0⟩⟩:=h
 exact ⟨_,_,_,rfl,⟨kh0,mh0,h0.sl.mono fun i hi => hi.1⟩⟩
theorem Shelf.R_cells {w : World} {S : Nat → Prop} {cs : List Value} {x : Shelf} (h : Shelf.R w S cs x) : ∃ (A0 : Option Addr) (n0 c0 : Nat),cs = [.slice A0 n0 c0,.int .i64 x.count_]:=by
 obtain ⟨A0,n0,c0,rfl,⟨kh0,mh0,h0⟩⟩:=h
 exact ⟨A0,n0,c0,rfl⟩
theorem Shelf.W_cells {w : World} {S : Nat → Prop} {cs : List Value} {x : Shelf} (h : Shelf.W w S cs x) : ∃ (A0 : Option Addr) (n0 c0 : Nat),cs = [.slice A0 n0 c0,.int .i64 x.count_]:=by
 obtain ⟨A0,n0,c0,lab,rfl,⟨kh0,mh0,h0⟩⟩:=h
 exact ⟨A0,n0,c0,rfl⟩
set_option maxRecDepth 8000 in
theorem opens_Shelf : Opens Tryz.prog 33 (fun w cs (x : Shelf) => Shelf.R w (fun _ => True) cs x):=by
 intro H enc w base spare held fuel cs x h
 obtain ⟨xs,n,_,_,hlen,hxl,hf⟩:=DataW.trod_struct Tryz.underlying33 h
 rw [show Tryz.prog.cellsOf 33 = 2 from by kernel_rfl] at hlen
 have hxl' : xs.length = 2:=hxl
 have h0 : DataW.trod enc Tryz.prog w base spare held n 22 ((cs.drop 0).take (Tryz.prog.cellsOf 22)) = xs[0]?:=hf 0 _ rfl
 rw [show Tryz.prog.cellsOf 22 = 1 from by kernel_rfl,List.getElem?_eq_getElem (show 0 < xs.length by omega)] at h0
 obtain ⟨f0,A0,n0,c0,e0,g0,g0',-,-,s0⟩:=opens_ints Tryz.underlying22 Tryz.underlying3 (by kernel_rfl) H enc w base spare held n _ _ h0
 have h1 : DataW.trod enc Tryz.prog w base spare held n 3 ((cs.drop 1).take (Tryz.prog.cellsOf 3)) = xs[1]?:=hf 1 _ rfl
 rw [show Tryz.prog.cellsOf 3 = 1 from by kernel_rfl,List.getElem?_eq_getElem (show 1 < xs.length by omega)] at h1
 obtain ⟨f1,e1,-,-⟩:=DataW.trod_int Tryz.underlying3 h1
 clear h0 h1 hf h hxl hxl'
 match cs,hlen with
 | [q0,q1],_ =>
  simp only [List.drop_succ_cons,List.drop_zero,List.take_succ_cons,List.take_zero,List.cons.injEq,and_true] at e0 e1
  subst e0
  subst e1
  exact ⟨⟨f0,f1⟩,_,_,_,rfl,⟨g0,Nat.le_trans g0 g0',s0⟩⟩
set_option maxRecDepth 8000 in
theorem szShelf_any (x : Shelf) (cs : List Value) (q : Int) (w : World) (S : Nat → Prop) (h : Shelf.R w S cs x) (hq0 : 0 ≤ q) (hq2 : q ≤ 1048576) :
  Calls Tryz.prog 27 #[.agg cs.toArray,.int .i64 q] w fun e w' => ∃ r : Int,e = .returned (.int .i64 r) ∧ Left r q (Shelf.wt x) ∧ Ext w w':=by
 obtain ⟨A0,n0,c0,rfl,⟨kh0,mh0,h0⟩⟩:=h
 have H0:=hid h0
 clear h0
 show Calls Tryz.prog _ #[.agg #[.slice A0 n0 c0,.int .i64 x.count_],.int .i64 q] w _
 go_enter Tryz.func27,Tryz.ntmps27
 go_wp2_with fail
 have L0:=hid (H0.out.len)
 refine (szIntS_any _ _ _ (q) _ hq0 hq2 mh0).mono ?_
 rintro e w1 ⟨rfl,xq⟩
 have x1:=Ext.of_eq xq
 clear xq
 have Q0 : Hid (Left (if (n0 : Int) ≤ q then q - n0 else -1) q (x.slots_.length)):=by show Left _ _ _;rw [L0.out];exact Left.of_if
 generalize (if (n0 : Int) ≤ q then q - n0 else -1) = r0 at Q0
 have X1 : Ext w w1:=Ext.tr (((Ext.refl' w).al _)) x1
 have b1 : Hid (Bx w1 w.heap.size 33 #[.slice A0 n0 c0,.int .i64 x.count_]):=Bx.ext (Bx.new' _ _ _ rfl) x1
 clear x1
 have R0 : Hid (Left r0 q (x.slots_.length)):=Q0
 by_cases g0 : 0 ≤ r0
 rotate_left
 ·have e0 : r0 = -1:=by have a:=R0.out;unfold Left at a;omega
  subst e0
  clear g0
  go_wp2
  go_ret
  exact ⟨-1,rfl,by have a:=R0.out;unfold Left Shelf.wt at *;omega,X1⟩
 have u0 : r0 ≤ 1048576:=by have a:=R0.out;unfold Left at a;omega
 go_wp2
 go_ret
 exact ⟨r0,rfl,R0.out,X1⟩
set_option maxRecDepth 8000 in
theorem toShelf_any (x : Shelf) (cs : List Value) (w : World) (S : Nat → Prop) (h : Shelf.R w S cs x) (hw : Shelf.wt x ≤ 1048576) :
  Calls Tryz.prog 38 #[.agg cs.toArray] w fun e w' => ∃ cs',e = .returned (.agg cs'.toArray) ∧ Shelf.W w' (fun g => w.heap.size ≤ g ∧ g < w'.heap.size) cs' x ∧ Ext w w':=by
 obtain ⟨A0,n0,c0,rfl,⟨kh0,mh0,h0⟩⟩:=h
 unfold Shelf.wt at hw
 have l0:=h0.len
 have n_0 : n0 ≤ 1048576:=by omega
 have H0:=hid h0
 clear h0 hw l0
 show Calls Tryz.prog _ #[.agg #[.slice A0 n0 c0,.int .i64 x.count_]] w _
 go_enter Tryz.func38,Tryz.ntmps38
 go_wp2_with fail
 refine (toIntS_any _ _ _ _ _ S (H0.out.ext ((((Ext.refl' w).al _).al _).al _)) n_0).mono ?_
 rintro e w1 ⟨B0,d0,rfl,o0,x1⟩
 have K0 : Hid (n0 ≤ d0):=own_cap o0
 replace o0:=hid (OwS.of_own o0)
 have z1 : w.heap.size + 3 ≤ w1.heap.size:=by have h:=x1.size;(try simp at h);omega
 have ba1 : Hid (Bx w1 (w.heap.size) 33 #[.slice A0 n0 c0,.int .i64 x.count_]):=Bx.ext (((Bx.new' _ _ _ rfl).al _).al _) x1
 have br1 : Hid (Bx w1 (w.heap.size + 1) 53 #[.slice none 0 0,.int .i64 0]):=Bx.ext ((Bx.new' _ _ _ (by simp)).al _) x1
 have bo1 : Hid (Bx w1 (w.heap.size + 2) 53 #[.slice none 0 0,.int .i64 0]):=Bx.ext (Bx.new' _ _ _ (by simp)) x1
 have X1 : Ext w w1:=Ext.tr ((((Ext.refl' w).al _).al _).al _) x1
 replace o0 : Hid (OwS w1 (fun g => w.heap.size + 3 ≤ g ∧ g < w1.heap.size) 3 1 B0 n0 d0 (ints x.slots_)):=o0.out.mono (fun g _ hg => by have h1:=hg.1;have h2:=hg.2;constructor <;> (try simp at h1) <;> omega)
 clear x1
 have ca1_1 : w1.cell? ⟨w.heap.size,1,none⟩ = some (.int .i64 x.count_):=ba1.out.cell 1
 have co1_0 : w1.cell? ⟨w.heap.size + 2,0,none⟩ = some (.slice none 0 0):=bo1.out.cell 0
 have co1_1 : w1.cell? ⟨w.heap.size + 2,1,none⟩ = some (.int .i64 0):=bo1.out.cell 1
 have fo1_0 : w1.frozen? ⟨w.heap.size + 2,0,none⟩ = false:=bo1.out.frozen 0
 have fo1_1 : w1.frozen? ⟨w.heap.size + 2,1,none⟩ = false:=bo1.out.frozen 1
 have cr1_0 : w1.cell? ⟨w.heap.size + 1,0,none⟩ = some (.slice none 0 0):=br1.out.cell 0
 have fr1_0 : w1.frozen? ⟨w.heap.size + 1,0,none⟩ = false:=br1.out.frozen 0
 have cr1_1 : w1.cell? ⟨w.heap.size + 1,1,none⟩ = some (.int .i64 0):=br1.out.cell 1
 have fr1_1 : w1.frozen? ⟨w.heap.size + 1,1,none⟩ = false:=br1.out.frozen 1
 go_wp2
 refine bodyPost_ret (v:=.agg #[.slice B0 n0 d0,.int .i64 x.count_]) (by simp [results,Tryz.results38,go_sem,cr1_0,cr1_1]) rfl ⟨[.slice B0 n0 d0,.int .i64 x.count_],rfl,?_,?_⟩
 ·refine (?_ : ∀ wz,Chg (fun g => g = w.heap.size + 2 ∨ g = w.heap.size + 1) w1 wz → Shelf.W wz (fun g => w.heap.size ≤ g ∧ g < wz.heap.size) [.slice B0 n0 d0,.int .i64 x.count_] x) _ (((((Chg.refl (fun g => g = w.heap.size + 2 ∨ g = w.heap.size + 1) _).sc2 _).sc2 _).sc2 _).sc2 _)
  intro wz cc
  have zz:=cc.size
  exact ⟨B0,n0,d0,lb [w1.heap.size],rfl,⟨K0.out,mh0,(o0.out.chg cc (fun g hg q => by have h1:=hg.1;have hq3 : g = w.heap.size + 2 ∨ g = w.heap.size + 1:=q;omega)).mono (fun g _ hg => ⟨⟨by have h1:=hg.1;omega,by have h2:=hg.2;omega⟩,by have h1:=hg.1;have h2:=hg.2;exact lb_here (by omega)⟩)⟩⟩
 ·exact ((((X1).sc2 _).sc2 _).sc2 _).sc2 _
set_option maxRecDepth 8000 in
theorem eqShelf_same (x : Shelf) (cs cs' : List Value) (w : World) (S S' : Nat → Prop) (h : Shelf.R w S cs x) (u : Shelf.R w S' cs' x) :
  Calls Tryz.prog 50 #[.agg cs.toArray,.agg cs'.toArray] w fun e w' => e = .returned (.bool true) ∧ Ext w w':=by
 obtain ⟨A0,n0,c0,rfl,⟨kh0,mh0,h0⟩⟩:=h
 obtain ⟨B0,p0,d0,rfl,⟨ku0,mu0,u0⟩⟩:=u
 obtain rfl : n0 = p0:=by have a:=h0.len;have b:=u0.len;omega
 have H0:=hid h0
 have U0:=hid u0
 clear h0 u0
 show Calls Tryz.prog _ #[.agg #[.slice A0 n0 c0,.int .i64 x.count_],.agg #[.slice B0 n0 d0,.int .i64 x.count_]] w _
 go_enter Tryz.func50,Tryz.ntmps50
 go_wp2_with fail
 refine (eqIntS_same _ _ _ _ _ _ _ S S' (H0.out.ext (((Ext.refl' w).al _).al _)) (U0.out.ext (((Ext.refl' w).al _).al _)) mh0).mono ?_
 rintro e w1 ⟨rfl,x1⟩
 have z1 : w.heap.size + 2 ≤ w1.heap.size:=by have h:=x1.size;(try simp at h);omega
 have ba1 : Hid (Bx w1 (w.heap.size) 53 #[.slice A0 n0 c0,.int .i64 x.count_]):=Bx.ext ((Bx.new' _ _ _ rfl).al _) x1
 have bb1 : Hid (Bx w1 (w.heap.size + 1) 53 #[.slice B0 n0 d0,.int .i64 x.count_]):=Bx.ext (Bx.new' _ _ _ (by simp)) x1
 have X1 : Ext w w1:=Ext.tr (((Ext.refl' w).al _).al _) x1
 clear x1
 have ca1_1 : w1.cell? ⟨w.heap.size,1,none⟩ = some (.int .i64 x.count_):=ba1.out.cell 1
 have cb1_1 : w1.cell? ⟨w.heap.size + 1,1,none⟩ = some (.int .i64 x.count_):=bb1.out.cell 1
 go_wp2
 go_ret
 exact ⟨rfl,X1⟩
/-! ### Wrote -/
structure Wrote where
 stamp_ : Int
 who_ : Int
 puts_ : List Row
deriving Inhabited
def Wrote.wt (x : Wrote) : Nat:=x.puts_.length
def Wrote.R (w : World) (S : Nat → Prop) (cs : List Value) (x : Wrote) : Prop:=∃ (A0 : Option Addr) (n0 c0 : Nat),cs = [.int .i64 x.stamp_,.int .i64 x.who_,.slice A0 n0 c0] ∧ (n0 ≤ c0 ∧ n0 ≤ 9223372036854775807 ∧ Sl w S 2 A0 n0 (x.puts_.flatMap Row.cells))
def Wrote.W (w : World) (S : Nat → Prop) (cs : List Value) (x : Wrote) : Prop:=∃ (A0 : Option Addr) (n0 c0 : Nat) (lab : Nat → Nat),cs = [.int .i64 x.stamp_,.int .i64 x.who_,.slice A0 n0 c0] ∧ (n0 ≤ c0 ∧ n0 ≤ 9223372036854775807 ∧ OwS w (fun g => S g ∧ lab g = 0) 239 2 A0 n0 c0 (x.puts_.flatMap Row.cells))
theorem Wrote.R_good : Good Wrote.R 3:=⟨fun {_ _ _ _} h => by
  obtain ⟨A0,n0,c0,rfl,⟨kh0,mh0,h0⟩⟩:=h
  rfl,
 fun {_ _ _ _ _ _} h k hd => by
  obtain ⟨A0,n0,c0,rfl,⟨kh0,mh0,h0⟩⟩:=h
  exact ⟨_,_,_,rfl,⟨kh0,mh0,h0.chg k hd⟩⟩,
 fun {_ _ _ _ _} h hs => by
  obtain ⟨A0,n0,c0,rfl,⟨kh0,mh0,h0⟩⟩:=h
  exact ⟨_,_,_,rfl,⟨kh0,mh0,h0.mono hs⟩⟩⟩
theorem Wrote.W_good : Good Wrote.W 3:=⟨fun {_ _ _ _} h => by
  obtain ⟨A0,n0,c0,lab,rfl,⟨kh0,mh0,h0⟩⟩:=h
  rfl,
 fun {_ _ _ _ _ _} h k hd => by
  obtain ⟨A0,n0,c0,lab,rfl,⟨kh0,mh0,h0⟩⟩:=h
  exact ⟨_,_,_,lab,rfl,⟨kh0,mh0,h0.chg k fun i hi => hd i hi.1⟩⟩,
 fun {_ _ _ _ _} h hs => by
  obtain ⟨A0,n0,c0,lab,rfl,⟨kh0,mh0,h0⟩⟩:=h
  exact ⟨_,_,_,lab,rfl,⟨kh0,mh0,h0.mono fun i _ hi => ⟨hs i hi.1,hi.2⟩⟩⟩⟩
theorem Wrote.W_R {w : World} {S : Nat → Prop} {cs : List Value} {x : Wrote} (h : Wrote.W w S cs x) : Wrote.R w S cs x:=by
 obtain ⟨A0,n0,c0,lab,rfl,⟨kh0,mh0,h0⟩⟩:=h
 exact ⟨_,_,_,rfl,⟨kh0,mh0,h0.sl.mono fun i hi => hi.1⟩⟩
theorem Wrote.R_cells {w : World} {S : Nat → Prop} {cs : List Value} {x : Wrote} (h : Wrote.R w S cs x) : ∃ (A0 : Option Addr) (n0 c0 : Nat),cs = [.int .i64 x.stamp_,.int .i64 x.who_,.slice A0 n0 c0]:=by
 obtain ⟨A0,n0,c0,rfl,⟨kh0,mh0,h0⟩⟩:=h
 exact ⟨A0,n0,c0,rfl⟩
theorem Wrote.W_cells {w : World} {S : Nat → Prop} {cs : List Value} {x : Wrote} (h : Wrote.W w S cs x) : ∃ (A0 : Option Addr) (n0 c0 : Nat),cs = [.int .i64 x.stamp_,.int .i64 x.who_,.slice A0 n0 c0]:=by
 obtain ⟨A0,n0,c0,lab,rfl,⟨kh0,mh0,h0⟩⟩:=h
 exact ⟨A0,n0,c0,rfl⟩
set_option maxRecDepth 8000 in
theorem opens_Wrote : Opens Tryz.prog 152 (fun w cs (x : Wrote) => Wrote.R w (fun _ => True) cs x):=by
 intro H enc w base spare held fuel cs x h
 obtain ⟨xs,n,_,_,hlen,hxl,hf⟩:=DataW.trod_struct Tryz.underlying152 h
 rw [show Tryz.prog.cellsOf 152 = 3 from by kernel_rfl] at hlen
 have hxl' : xs.length = 3:=hxl
 have h0 : DataW.trod enc Tryz.prog w base spare held n 3 ((cs.drop 0).take (Tryz.prog.cellsOf 3)) = xs[0]?:=hf 0 _ rfl
 rw [show Tryz.prog.cellsOf 3 = 1 from by kernel_rfl,List.getElem?_eq_getElem (show 0 < xs.length by omega)] at h0
 obtain ⟨f0,e0,-,-⟩:=DataW.trod_int Tryz.underlying3 h0
 have h1 : DataW.trod enc Tryz.prog w base spare held n 3 ((cs.drop 1).take (Tryz.prog.cellsOf 3)) = xs[1]?:=hf 1 _ rfl
 rw [show Tryz.prog.cellsOf 3 = 1 from by kernel_rfl,List.getElem?_eq_getElem (show 1 < xs.length by omega)] at h1
 obtain ⟨f1,e1,-,-⟩:=DataW.trod_int Tryz.underlying3 h1
 have h2 : DataW.trod enc Tryz.prog w base spare held n 138 ((cs.drop 2).take (Tryz.prog.cellsOf 138)) = xs[2]?:=hf 2 _ rfl
 rw [show Tryz.prog.cellsOf 138 = 1 from by kernel_rfl,List.getElem?_eq_getElem (show 2 < xs.length by omega)] at h2
 obtain ⟨f2,A2,n2,c2,e2,g2,g2',-,-,s2⟩:=opens_flat Tryz.underlying138 (by kernel_rfl) (by omega) Row.cells_length opens_Row H enc w base spare held n _ _ h2
 clear h0 h1 h2 hf h hxl hxl'
 match cs,hlen with
 | [q0,q1,q2],_ =>
  simp only [List.drop_succ_cons,List.drop_zero,List.take_succ_cons,List.take_zero,List.cons.injEq,and_true] at e0 e1 e2
  subst e0
  subst e1
  subst e2
  exact ⟨⟨f0,f1,f2⟩,_,_,_,rfl,⟨g2,Nat.le_trans g2 g2',s2⟩⟩
set_option maxRecDepth 8000 in
theorem szWrote_any (x : Wrote) (cs : List Value) (q : Int) (w : World) (S : Nat → Prop) (h : Wrote.R w S cs x) (hq0 : 0 ≤ q) (hq2 : q ≤ 1048576) :
  Calls Tryz.prog 77 #[.agg cs.toArray,.int .i64 q] w fun e w' => ∃ r : Int,e = .returned (.int .i64 r) ∧ Left r q (Wrote.wt x) ∧ Ext w w':=by
 obtain ⟨A0,n0,c0,rfl,⟨kh0,mh0,h0⟩⟩:=h
 have H0:=hid h0
 clear h0
 show Calls Tryz.prog _ #[.agg #[.int .i64 x.stamp_,.int .i64 x.who_,.slice A0 n0 c0],.int .i64 q] w _
 go_enter Tryz.func77,Tryz.ntmps77
 go_wp2_with fail
 have L0:=hid (H0.out.flen Row.cells_length (by omega))
 refine (szRowS_any _ _ _ (q) _ hq0 hq2 mh0).mono ?_
 rintro e w1 ⟨rfl,xq⟩
 have x1:=Ext.of_eq xq
 clear xq
 have Q0 : Hid (Left (if (n0 : Int) ≤ q then q - n0 else -1) q (x.puts_.length)):=by show Left _ _ _;rw [L0.out];exact Left.of_if
 generalize (if (n0 : Int) ≤ q then q - n0 else -1) = r0 at Q0
 have X1 : Ext w w1:=Ext.tr (((Ext.refl' w).al _)) x1
 have b1 : Hid (Bx w1 w.heap.size 152 #[.int .i64 x.stamp_,.int .i64 x.who_,.slice A0 n0 c0]):=Bx.ext (Bx.new' _ _ _ rfl) x1
 clear x1
 have R0 : Hid (Left r0 q (x.puts_.length)):=Q0
 by_cases g0 : 0 ≤ r0
 rotate_left
 ·have e0 : r0 = -1:=by have a:=R0.out;unfold Left at a;omega
  subst e0
  clear g0
  go_wp2
  go_ret
  exact ⟨-1,rfl,by have a:=R0.out;unfold Left Wrote.wt at *;omega,X1⟩
 have u0 : r0 ≤ 1048576:=by have a:=R0.out;unfold Left at a;omega
 go_wp2
 go_ret
 exact ⟨r0,rfl,R0.out,X1⟩
theorem Wrote.size_info : (Tryz.prog.info? 171).map (·.size) = some 3:=by kernel_rfl
theorem Wrote.size_laws : (Tryz.prog.info? 152).map (·.size) = some 3:=by kernel_rfl
theorem Wrote.W_one {w : World} {S : Nat → Prop} {cs : List Value} {x : Wrote} (h : Wrote.W w S cs x) : ∀ v ∈ cs,v.oneCell' = true:=by
 obtain ⟨A0,n0,c0,rfl⟩:=Wrote.W_cells h
 simp [Value.oneCell']
set_option maxRecDepth 8000 in
theorem szWroteS_any (A : Option Addr) (n c : Nat) (l : List Wrote) (q : Int) (w : World) (S : Nat → Prop) (hs : SlR Wrote.R 3 w S A n l) (hm : n ≤ 9223372036854775807) (hq0 : 0 ≤ q) (hq2 : q ≤ 1048576) :
  Calls Tryz.prog 30 #[.slice A n c,.int .i64 q] w fun e w' => ∃ r : Int,e = .returned (.int .i64 r) ∧ Left r q (wtl Wrote.wt l) ∧ Ext w w':=by
 have H:=hid hs.1
 have HL:=hid (wtl_len Wrote.wt l)
 by_cases hn : (n : Int) ≤ q
 rotate_left
 ·go_enter Tryz.func30,Tryz.ntmps30
  go_wp2
  go_ret
  exact ⟨-1,by first|rfl|(simp;done)|simp [hn],.inr ⟨by have a:=H.out;have b:=HL.out;omega,rfl⟩,Ext.refl' _⟩
 have HS:=hid hs
 clear hs
 go_enter Tryz.func30,Tryz.ntmps30
 go_wp2
 go_loopw [1,5] (fun u i wr => ∃ (k : Nat) (r : Int),k ≤ n ∧ i = .int .i64 k ∧ u = .int .i64 r ∧ 0 ≤ r ∧ r ≤ 1048576 ∧ Hid (r = q - n + k - wtl Wrote.wt (l.take k)) ∧ Ext w wr) (fun _ i _ => n - (intOf i).toNat)
 case atStart => exact ⟨0,q - n,Nat.zero_le _,rfl,rfl,by omega,by omega,by show _ = _;simp [wtl],Ext.refl' _⟩
 case round =>
  obtain ⟨k,r,hk,rfl,rfl,hr0,hr2,HR,hx⟩:=hrel
  have HX:=hid hx
  clear hx
  by_cases hlt : (k : Int) < (n : Int)
  rotate_left
  ·have e : Hid (k = n):=by show k = n;omega
   go_wp2
   go_ret
   exact ⟨r,rfl,.inl (by have h1:=HR.out;rw [e.out,← H.out,List.take_length] at h1;have h2:=H.out;omega),HX.out⟩
  obtain ⟨b,o,rfl⟩:=HS.out.addr (by omega)
  obtain ⟨x,row,hxk,-,hrw,hc⟩:=(HS.out.ext Wrote.R_good HX.out).at_ (k:=k) (by omega)
  have hrg:=hid (SlR.range Wrote.R_good hrw hc)
  have hln : Hid ((Tryz.prog.info? 152).map (·.size) = some row.length):=by show _ = _;rw [Wrote.R_good.len hrw];exact Wrote.size_laws
  have HRW:=hid hrw
  have HW:=hid (wtl_take Wrote.wt hxk)
  have HLE:=hid (wtl_le Wrote.wt l (k + 1))
  have HTL:=hid (wtl_len Wrote.wt (l.drop (k + 1)))
  clear hrw hc hxk
  go_wp2_with (refine wpList_load_mid rfl 152 _ rfl b (o + k * 3) rfl row _ hrg.out Tryz.underlying152 rfl hln.out ?_)
  refine (szWrote_any x _ r _ S HRW.out hr0 hr2).mono ?_
  rintro e w2 ⟨r2,rfl,Q,x2⟩
  have X2:=hid (HX.out.tr x2)
  have HQ:=hid Q
  clear x2 Q
  by_cases g : 0 ≤ r2
  rotate_left
  ·have e : r2 = -1:=by have a:=HQ.out;unfold Left at a;omega
   subst e
   clear g
   go_wp2
   go_ret
   exact ⟨-1,rfl,.inr ⟨by have a:=HQ.out;have b:=HW.out;have c:=HR.out;have d:=HLE.out;have e:=H.out;have f:=wtl_rest Wrote.wt l (k + 1);unfold Left at a;omega,rfl⟩,X2.out⟩
  have g2 : r2 ≤ 1048576:=by have a:=HQ.out;unfold Left at a;omega
  go_wp2
  go_roundw
  case rel => exact ⟨k + 1,r2,by omega,by go_num,rfl,g,g2,by show _ = _;have a:=HQ.out;have b:=HW.out;have c:=HR.out;unfold Left at a;omega,X2.out⟩
  case measure => simp [intOf];omega
set_option maxRecDepth 8000 in
theorem toWrote_any (x : Wrote) (cs : List Value) (w : World) (S : Nat → Prop) (h : Wrote.R w S cs x) (hw : Wrote.wt x ≤ 1048576) :
  Calls Tryz.prog 90 #[.agg cs.toArray] w fun e w' => ∃ cs',e = .returned (.agg cs'.toArray) ∧ Wrote.W w' (fun g => w.heap.size ≤ g ∧ g < w'.heap.size) cs' x ∧ Ext w w':=by
 obtain ⟨A0,n0,c0,rfl,⟨kh0,mh0,h0⟩⟩:=h
 unfold Wrote.wt at hw
 have l0:=h0.flen Row.cells_length (by omega)
 have n_0 : n0 ≤ 1048576:=by omega
 have H0:=hid h0
 clear h0 hw l0
 show Calls Tryz.prog _ #[.agg #[.int .i64 x.stamp_,.int .i64 x.who_,.slice A0 n0 c0]] w _
 go_enter Tryz.func90,Tryz.ntmps90
 go_wp2_with fail
 refine (toRowS_any _ _ _ _ _ S (H0.out.ext ((((Ext.refl' w).al _).al _).al _)) n_0).mono ?_
 rintro e w1 ⟨B0,d0,rfl,o0,x1⟩
 have K0 : Hid (n0 ≤ d0):=own_cap o0
 replace o0:=hid (OwS.of_own o0)
 have z1 : w.heap.size + 3 ≤ w1.heap.size:=by have h:=x1.size;(try simp at h);omega
 have ba1 : Hid (Bx w1 (w.heap.size) 152 #[.int .i64 x.stamp_,.int .i64 x.who_,.slice A0 n0 c0]):=Bx.ext (((Bx.new' _ _ _ rfl).al _).al _) x1
 have br1 : Hid (Bx w1 (w.heap.size + 1) 171 #[.int .i64 0,.int .i64 0,.slice none 0 0]):=Bx.ext ((Bx.new' _ _ _ (by simp)).al _) x1
 have bo1 : Hid (Bx w1 (w.heap.size + 2) 171 #[.int .i64 x.stamp_,.int .i64 x.who_,.slice none 0 0]):=Bx.ext (Bx.new' _ _ _ (by simp)) x1
 have X1 : Ext w w1:=Ext.tr ((((Ext.refl' w).al _).al _).al _) x1
 replace o0 : Hid (OwS w1 (fun g => w.heap.size + 3 ≤ g ∧ g < w1.heap.size) 239 2 B0 n0 d0 (x.puts_.flatMap Row.cells)):=o0.out.mono (fun g _ hg => by have h1:=hg.1;have h2:=hg.2;constructor <;> (try simp at h1) <;> omega)
 clear x1
 have co1_0 : w1.cell? ⟨w.heap.size + 2,0,none⟩ = some (.int .i64 x.stamp_):=bo1.out.cell 0
 have co1_1 : w1.cell? ⟨w.heap.size + 2,1,none⟩ = some (.int .i64 x.who_):=bo1.out.cell 1
 have co1_2 : w1.cell? ⟨w.heap.size + 2,2,none⟩ = some (.slice none 0 0):=bo1.out.cell 2
 have fo1_2 : w1.frozen? ⟨w.heap.size + 2,2,none⟩ = false:=bo1.out.frozen 2
 have cr1_0 : w1.cell? ⟨w.heap.size + 1,0,none⟩ = some (.int .i64 0):=br1.out.cell 0
 have fr1_0 : w1.frozen? ⟨w.heap.size + 1,0,none⟩ = false:=br1.out.frozen 0
 have cr1_1 : w1.cell? ⟨w.heap.size + 1,1,none⟩ = some (.int .i64 0):=br1.out.cell 1
 have fr1_1 : w1.frozen? ⟨w.heap.size + 1,1,none⟩ = false:=br1.out.frozen 1
 have cr1_2 : w1.cell? ⟨w.heap.size + 1,2,none⟩ = some (.slice none 0 0):=br1.out.cell 2
 have fr1_2 : w1.frozen? ⟨w.heap.size + 1,2,none⟩ = false:=br1.out.frozen 2
 go_wp2
 refine bodyPost_ret (v:=.agg #[.int .i64 x.stamp_,.int .i64 x.who_,.slice B0 n0 d0]) (by simp [results,Tryz.results90,go_sem,cr1_0,cr1_1,cr1_2]) rfl ⟨[.int .i64 x.stamp_,.int .i64 x.who_,.slice B0 n0 d0],rfl,?_,?_⟩
 ·refine (?_ : ∀ wz,Chg (fun g => g = w.heap.size + 2 ∨ g = w.heap.size + 1) w1 wz → Wrote.W wz (fun g => w.heap.size ≤ g ∧ g < wz.heap.size) [.int .i64 x.stamp_,.int .i64 x.who_,.slice B0 n0 d0] x) _ (((((Chg.refl (fun g => g = w.heap.size + 2 ∨ g = w.heap.size + 1) _).sc2 _).sc2 _).sc2 _).sc2 _)
  intro wz cc
  have zz:=cc.size
  exact ⟨B0,n0,d0,lb [w1.heap.size],rfl,⟨K0.out,mh0,(o0.out.chg cc (fun g hg q => by have h1:=hg.1;have hq3 : g = w.heap.size + 2 ∨ g = w.heap.size + 1:=q;omega)).mono (fun g _ hg => ⟨⟨by have h1:=hg.1;omega,by have h2:=hg.2;omega⟩,by have h1:=hg.1;have h2:=hg.2;exact lb_here (by omega)⟩)⟩⟩
 ·exact ((((X1).sc2 _).sc2 _).sc2 _).sc2 _
theorem Tryz.infoWrote : (Tryz.prog.info? 171).map (fun i => (i.zero,i.size,i.bytes)) = some (some (.agg #[.int .i64 0,.int .i64 0,.slice none 0 0]),3,40):=by kernel_rfl
set_option maxRecDepth 8000 in
theorem toWroteS_any (A : Option Addr) (n c : Nat) (l : List Wrote) (w : World) (S : Nat → Prop) (hs : SlR Wrote.R 3 w S A n l) (hm : n ≤ 1048576) (hw : wtl Wrote.wt l ≤ 1048576) :
  Calls Tryz.prog 41 #[.slice A n c] w fun e w' => ∃ B d,e = .returned (.slice B n d) ∧ SlW Wrote.W 171 3 w' (fun g => w.heap.size ≤ g ∧ g < w'.heap.size) B n d l ∧ Ext w w':=by
 obtain ⟨w1,cs0,hmk,hown,-,hx1,hlt⟩:=made_row (P:=Tryz.prog) w 56 171 _ _ _ Tryz.underlying56 Tryz.infoWrote n (by omega) (by unfold maxLen;omega)
 have HO:=hid hown
 have HX:=hid hx1
 have HS:=hid hs
 have HLL:=hid hs.1
 have HW0:=hid hw
 clear hown hx1 hs hw
 go_enter Tryz.func41,Tryz.ntmps41
 go_wp2
 go_loopw [4] (fun i wr => ∃ (k : Nat) (cs : List Value) (lab : Nat → Nat),k ≤ n ∧ i = .int .i64 k ∧ Hid (wr.ownsRow w.heap.size 171 3 (.slice (some ⟨w.heap.size,0,none⟩) n n) n cs) ∧ Hid (WRows Wrote.W 3 wr (fun g => w.heap.size < g ∧ g < wr.heap.size) lab cs l k) ∧ Ext w wr) (fun i _ => n - (intOf i).toNat)
 case atStart => exact ⟨0,_,fun _ => 0,Nat.zero_le _,rfl,HO,WRows.zero _ _ _ _ _ _ _,HX.out⟩
 case round =>
  obtain ⟨k,cs,lab,hk,rfl,HO2,HU,hx⟩:=hrel
  have HX2:=hid hx
  clear hx
  by_cases hlt : (k : Int) < (n : Int)
  rotate_left
  ·have e : Hid (k = n):=by show k = n;omega
   go_wp2
   go_ret
   refine ⟨_,_,rfl,⟨HLL.out,cs,fun g => if w.heap.size < g then lab g else 0,⟨own_base HO2.out (Nat.zero_le _),fun g hg => ?_⟩,fun i hi x hxi => ?_⟩,HX2.out⟩
   ·have e : some w.heap.size = some g:=hg
    injection e with e
    subst e
    exact ⟨⟨Nat.le_refl _,(HO2.out.lt _ rfl).2⟩,if_neg (Nat.lt_irrefl _)⟩
   ·obtain ⟨row,hr,hj⟩:=HU.out i (by have h:=e.out;omega) x hxi
    exact ⟨row,Wrote.W_good.mono hr fun g hg => ⟨⟨by have h:=hg.1.1;omega,hg.1.2⟩,(if_pos hg.1.1).trans hg.2⟩,hj⟩
  obtain ⟨b,o,rfl⟩:=HS.out.addr (by omega)
  obtain ⟨x,row,hxk,-,hrw,hc⟩:=(HS.out.ext Wrote.R_good HX2.out).at_ (k:=k) (by omega)
  have hrg:=hid (SlR.range Wrote.R_good hrw hc)
  have hln : Hid ((Tryz.prog.info? 152).map (·.size) = some row.length):=by show _ = _;rw [Wrote.R_good.len hrw];exact Wrote.size_laws
  have HRW:=hid hrw
  have HXK:=hid hxk
  have HKW:=hid (Nat.le_trans (wtl_at Wrote.wt hxk) HW0.out)
  have HLT : Hid (k < n):=by show k < n;omega
  clear hrw hc hxk
  go_wp2_with (refine wpList_load_mid rfl 152 _ rfl b (o + k * 3) rfl row _ hrg.out Tryz.underlying152 rfl hln.out ?_)
  refine (toWrote_any x _ _ S HRW.out HKW.out).mono ?_
  rintro e w2 ⟨cv,rfl,hW,hx2⟩
  have HWW:=hid hW
  have HO3:=hid (own_ext HO2.out hx2)
  have z0 : w.heap.size < wr.heap.size:=(HO2.out.lt _ rfl).2
  have z1 : wr.heap.size ≤ w2.heap.size:=hx2.size
  have HX3:=hid hx2
  have hcz : cv.toArray.size = 3:=Eq.trans (List.size_toArray ..) (Wrote.W_good.len hW)
  have hth : Hid (w2.there w.heap.size (k * 3) cv.toArray.size):=by show World.there _ _ _ _;rw [hcz];exact own_there HO3.out HLT.out
  have hsz : Hid ((Tryz.prog.info? 171).map (·.size) = some cv.toArray.size):=by show _ = _;rw [hcz];exact Wrote.size_info
  have hon : Hid (cv.toArray.all (·.oneCell') = true):=all_oneCell_toArray (Wrote.W_one hW)
  clear hx2 hW hcz
  go_wp2_with (refine wpList_store_mid rfl 171 _ _ rfl w.heap.size (k * 3) cv.toArray rfl rfl hth.out hsz.out hon.out ?_)
  go_roundw
  case rel =>
   have hl3 : cs.length = n * 3:=HO2.out.1
   have hkn:=HLT.out
   have hcl:=Wrote.W_good.len HWW.out
   have cc : Chg (fun g => g = w.heap.size) w2 (w2.setCells w.heap.size (k * 3) cv):=Chg.cells (S:=fun g => g = w.heap.size) rfl cv _ (Chg.refl _ _)
   have hsize : w2.heap.size ≤ (w2.setCells w.heap.size (k * 3) cv).heap.size:=cc.size
   refine ⟨k + 1,putAt cs (k * 3) cv,_,by omega,by go_num,hid (own_cells cv (k * 3) HO3.out),hid (WRows.step (b:=wr.heap.size) Wrote.W_good HU.out (fun g hg => hg.2) (Chg.trans (HX3.out.chg _) cc) (fun g hg q => by have h1:=hg.1;have h2 : g = w.heap.size:=q;omega) (fun g hg => ⟨hg.1,by have h:=hg.2;show g < (w2.setCells _ _ cv).heap.size;omega⟩) HXK.out (Wrote.W_good.mono (Wrote.W_good.chg HWW.out cc (fun g hg q => by have h1:=hg.1;have h2 : g = w.heap.size:=q;omega)) (fun g hg => ⟨⟨by have h1:=hg.1;omega,by have h:=hg.2;show g < (w2.setCells _ _ cv).heap.size;omega⟩,hg.1⟩)) (fun j hj => putAt_lt _ _ _ _ hj) (fun j hj => putAt_at _ _ _ _ (by omega) (by omega))),?_⟩
   exact (HX2.out.tr HX3.out).cells (Nat.le_refl _) cv _
  case measure => have h:=HLT.out;simp [intOf];omega
set_option maxRecDepth 8000 in
theorem eqWrote_same (x : Wrote) (cs cs' : List Value) (w : World) (S S' : Nat → Prop) (h : Wrote.R w S cs x) (u : Wrote.R w S' cs' x) :
  Calls Tryz.prog 106 #[.agg cs.toArray,.agg cs'.toArray] w fun e w' => e = .returned (.bool true) ∧ Ext w w':=by
 obtain ⟨A0,n0,c0,rfl,⟨kh0,mh0,h0⟩⟩:=h
 obtain ⟨B0,p0,d0,rfl,⟨ku0,mu0,u0⟩⟩:=u
 obtain rfl : n0 = p0:=by have a:=h0.flen Row.cells_length (by omega);have b:=u0.flen Row.cells_length (by omega);omega
 have H0:=hid h0
 have U0:=hid u0
 clear h0 u0
 show Calls Tryz.prog _ #[.agg #[.int .i64 x.stamp_,.int .i64 x.who_,.slice A0 n0 c0],.agg #[.int .i64 x.stamp_,.int .i64 x.who_,.slice B0 n0 d0]] w _
 go_enter Tryz.func106,Tryz.ntmps106
 go_wp2_with fail
 refine (eqRowS_same _ _ _ _ _ _ _ S S' (H0.out.ext (((Ext.refl' w).al _).al _)) (U0.out.ext (((Ext.refl' w).al _).al _)) mh0).mono ?_
 rintro e w1 ⟨rfl,x1⟩
 have z1 : w.heap.size + 2 ≤ w1.heap.size:=by have h:=x1.size;(try simp at h);omega
 have ba1 : Hid (Bx w1 (w.heap.size) 171 #[.int .i64 x.stamp_,.int .i64 x.who_,.slice A0 n0 c0]):=Bx.ext ((Bx.new' _ _ _ rfl).al _) x1
 have bb1 : Hid (Bx w1 (w.heap.size + 1) 171 #[.int .i64 x.stamp_,.int .i64 x.who_,.slice B0 n0 d0]):=Bx.ext (Bx.new' _ _ _ (by simp)) x1
 have X1 : Ext w w1:=Ext.tr (((Ext.refl' w).al _).al _) x1
 clear x1
 go_wp2
 go_ret
 exact ⟨rfl,X1⟩
set_option maxRecDepth 8000 in
theorem eqWroteS_same (A B : Option Addr) (n c d : Nat) (l : List Wrote) (w : World) (S S' : Nat → Prop) (ha : SlR Wrote.R 3 w S A n l) (hb : SlR Wrote.R 3 w S' B n l) (hm : n ≤ 9223372036854775807) :
  Calls Tryz.prog 53 #[.slice A n c,.slice B n d] w fun e w' => e = .returned (.bool true) ∧ Ext w w':=by
 have HA:=hid ha
 have HB:=hid hb
 clear ha hb
 go_enter Tryz.func53,Tryz.ntmps53
 go_wp2
 go_loopw [5] (fun i wr => ∃ (k : Nat),k ≤ n ∧ i = .int .i64 k ∧ Ext w wr) (fun i _ => n - (intOf i).toNat)
 case atStart => exact ⟨0,Nat.zero_le _,rfl,Ext.refl' _⟩
 case round =>
  obtain ⟨k,hk,rfl,hx⟩:=hrel
  have HX:=hid hx
  clear hx
  by_cases hlt : (k : Int) < (n : Int)
  rotate_left
  ·go_wp2
   go_ret
   exact ⟨rfl,HX.out⟩
  obtain ⟨b,o,rfl⟩:=HA.out.addr (by omega)
  obtain ⟨b2,o2,rfl⟩:=HB.out.addr (by omega)
  obtain ⟨x,row,hxk,-,hrw,hc⟩:=(HA.out.ext Wrote.R_good HX.out).at_ (k:=k) (by omega)
  obtain ⟨y,row2,hyk,-,hrw2,hc2⟩:=(HB.out.ext Wrote.R_good HX.out).at_ (k:=k) (by omega)
  rw [hxk] at hyk
  injection hyk with hyk
  subst hyk
  have rx:=hid (SlR.range Wrote.R_good hrw hc)
  have ry:=hid (SlR.range Wrote.R_good hrw2 hc2)
  have RX:=hid hrw
  have RY:=hid hrw2
  have l1 : Hid ((Tryz.prog.info? 171).map (·.size) = some row.length):=by show _ = _;rw [Wrote.R_good.len hrw];exact Wrote.size_info
  have l2 : Hid ((Tryz.prog.info? 171).map (·.size) = some row2.length):=by show _ = _;rw [Wrote.R_good.len hrw2];exact Wrote.size_info
  have KX : Hid (∀ wq,Ext wr wq → wq.rangeAt b (o + k * 3) row):=fun wq q j v hv => q.co (rx.out j v hv)
  have KY : Hid (∀ wq,Ext wr wq → wq.rangeAt b2 (o2 + k * 3) row2):=fun wq q j v hv => q.co (ry.out j v hv)
  have hk0 : (0 : Int) ≤ (k : Int):=by omega
  clear hrw hrw2 hc hc2 hxk
  go_wp2
  refine region_class (fun w' => Ext wr w') (by kernel_rfl) (by kernel_rfl) ((Ext.refl' _).dr) ?_
  repeat (first|go_big_quiet_skip|(go_big_quiet_want;first|(refine quiet_load 171 _ rfl b (o + k * 3) rfl row _ KX.out Tryz.underlying171 rfl l1.out ?_;(try simp only [Act.put,List.setIfInBounds_toArray,List.set_cons_zero,List.set_cons_succ]);go_big_quiet_on)|(refine quiet_load 171 _ rfl b2 (o2 + k * 3) rfl row2 _ KY.out Tryz.underlying171 rfl l2.out ?_;(try simp only [Act.put,List.setIfInBounds_toArray,List.set_cons_zero,List.set_cons_succ]);go_big_quiet_on)|(unfold Oper.quiet;apply Exists.intro;refine ⟨fun wq hq => ?_,?_⟩;(go_simp;first|done|rfl|(go_at_call 106;exact (eqWrote_same x row row2 _ S S' (Wrote.R_good.ext RX.out hq) (Wrote.R_good.ext RY.out hq)).mono fun e w2 h2 => ⟨h2.1,hq.tr h2.2⟩));(try simp only [Act.put,List.setIfInBounds_toArray,List.set_cons_zero,List.set_cons_succ]);go_big_quiet_on)))
  refine wpQuiet_nil ?_
  intro wq hq
  have XE:=hid hq
  clear hq
  go_wp2
  go_roundw
  case rel => exact ⟨k + 1,by omega,by go_num,HX.out.tr XE.out⟩
  case measure => simp [intOf];omega

end Go.Proofs.YtoegjiigaoanbaaGreat
namespace Go.Proofs.YtoegjiigaoanbaaGreat
open Go.RowKit Go.Deep
set_option linter.unnecessarySimpa false
set_option maxHeartbeats 400000000
open Go.Lib (hid)

set_option maxRecDepth 8000 in
theorem szRootS_any (A : Option Addr) (n c : Nat) (l : List Root) (q : Int) (w : World) (S : Nat → Prop) (hs : SlR Root.R 40 w S A n l) (hm : n ≤ 9223372036854775807) (hq0 : 0 ≤ q) (hq2 : q ≤ 1048576) :
  Calls Tryz.prog 29 #[.slice A n c,.int .i64 q] w fun e w' => ∃ r : Int,e = .returned (.int .i64 r) ∧ Left r q (wtl Root.wt l) ∧ Ext w w':=by
 have H:=hid hs.1
 have HL:=hid (wtl_len Root.wt l)
 by_cases hn : (n : Int) ≤ q
 rotate_left
 ·go_enter Tryz.func29,Tryz.ntmps29
  go_wp2
  go_ret
  exact ⟨-1,by first|rfl|(simp;done)|simp [hn],.inr ⟨by have a:=H.out;have b:=HL.out;omega,rfl⟩,Ext.refl' _⟩
 have HS:=hid hs
 clear hs
 go_enter Tryz.func29,Tryz.ntmps29
 go_wp2
 go_loopw [1,5] (fun u i wr => ∃ (k : Nat) (r : Int),k ≤ n ∧ i = .int .i64 k ∧ u = .int .i64 r ∧ 0 ≤ r ∧ r ≤ 1048576 ∧ Hid (r = q - n + k - wtl Root.wt (l.take k)) ∧ Ext w wr) (fun _ i _ => n - (intOf i).toNat)
 case atStart => exact ⟨0,q - n,Nat.zero_le _,rfl,rfl,by omega,by omega,by show _ = _;simp [wtl],Ext.refl' _⟩
 case round =>
  obtain ⟨k,r,hk,rfl,rfl,hr0,hr2,HR,hx⟩:=hrel
  have HX:=hid hx
  clear hx
  by_cases hlt : (k : Int) < (n : Int)
  rotate_left
  ·have e : Hid (k = n):=by show k = n;omega
   go_wp2
   go_ret
   exact ⟨r,rfl,.inl (by have h1:=HR.out;rw [e.out,← H.out,List.take_length] at h1;have h2:=H.out;omega),HX.out⟩
  obtain ⟨b,o,rfl⟩:=HS.out.addr (by omega)
  obtain ⟨x,row,hxk,-,hrw,hc⟩:=(HS.out.ext Root.R_good HX.out).at_ (k:=k) (by omega)
  have hrg:=hid (SlR.range Root.R_good hrw hc)
  have hln : Hid ((Tryz.prog.info? 149).map (·.size) = some row.length):=by show _ = _;rw [Root.R_good.len hrw];exact Root.size_laws
  have HRW:=hid hrw
  have HW:=hid (wtl_take Root.wt hxk)
  have HLE:=hid (wtl_le Root.wt l (k + 1))
  have HTL:=hid (wtl_len Root.wt (l.drop (k + 1)))
  clear hrw hc hxk
  go_wp2_with (refine wpList_load_mid rfl 149 _ rfl b (o + k * 40) rfl row _ hrg.out Tryz.underlying149 rfl hln.out ?_)
  refine (szRoot_any x _ r _ S HRW.out hr0 hr2).mono ?_
  rintro e w2 ⟨r2,rfl,Q,x2⟩
  have X2:=hid (HX.out.tr x2)
  have HQ:=hid Q
  clear x2 Q
  by_cases g : 0 ≤ r2
  rotate_left
  ·have e : r2 = -1:=by have a:=HQ.out;unfold Left at a;omega
   subst e
   clear g
   go_wp2
   go_ret
   exact ⟨-1,rfl,.inr ⟨by have a:=HQ.out;have b:=HW.out;have c:=HR.out;have d:=HLE.out;have e:=H.out;have f:=wtl_rest Root.wt l (k + 1);unfold Left at a;omega,rfl⟩,X2.out⟩
  have g2 : r2 ≤ 1048576:=by have a:=HQ.out;unfold Left at a;omega
  go_wp2
  go_roundw
  case rel => exact ⟨k + 1,r2,by omega,by go_num,rfl,g,g2,by show _ = _;have a:=HQ.out;have b:=HW.out;have c:=HR.out;unfold Left at a;omega,X2.out⟩
  case measure => simp [intOf];omega
theorem Tryz.infoRoot : (Tryz.prog.info? 97).map (fun i => (i.zero,i.size,i.bytes)) = some (some (.agg (List.toArray ((.int .i64 0)::(.int .i64 0)::(.int .i64 0)::(.int .i64 0)::(.int .i64 0)::(.int .i64 0)::(.int .i64 0)::(.int .i64 0)::(.int .i64 0)::(.int .i64 0)::(.int .i64 0)::(.bool false)::(.slice none 0 0)::(.slice none 0 0)::(.slice none 0 0)::(.slice none 0 0)::(.slice none 0 0)::(.slice none 0 0)::(.bool false)::(.int .i64 0)::(.int .i64 0)::(.int .i64 0)::(.int .i64 0)::(.int .i64 0)::(.int .i64 0)::(.int .i64 0)::(.int .i64 0)::(.int .i64 0)::(.slice none 0 0)::(.slice none 0 0)::(.int .i64 0)::(.int .i64 0)::(.int .i64 0)::(.bool false)::(.slice none 0 0)::(.slice none 0 0)::(.slice none 0 0)::(.slice none 0 0)::(.slice none 0 0)::(.slice none 0 0)::[]))),40,544):=by kernel_rfl
set_option maxRecDepth 8000 in
theorem toRootS_any (A : Option Addr) (n c : Nat) (l : List Root) (w : World) (S : Nat → Prop) (hs : SlR Root.R 40 w S A n l) (hm : n ≤ 1048576) (hw : wtl Root.wt l ≤ 1048576) :
  Calls Tryz.prog 40 #[.slice A n c] w fun e w' => ∃ B d,e = .returned (.slice B n d) ∧ SlW Root.W 97 40 w' (fun g => w.heap.size ≤ g ∧ g < w'.heap.size) B n d l ∧ Ext w w':=by
 obtain ⟨w1,cs0,hmk,hown,-,hx1,hlt⟩:=made_row (P:=Tryz.prog) w 55 97 _ _ _ Tryz.underlying55 Tryz.infoRoot n (by omega) (by unfold maxLen;omega)
 have HO:=hid hown
 have HX:=hid hx1
 have HS:=hid hs
 have HLL:=hid hs.1
 have HW0:=hid hw
 clear hown hx1 hs hw
 go_enter Tryz.func40,Tryz.ntmps40
 go_wp2
 go_loopw [4] (fun i wr => ∃ (k : Nat) (cs : List Value) (lab : Nat → Nat),k ≤ n ∧ i = .int .i64 k ∧ Hid (wr.ownsRow w.heap.size 97 40 (.slice (some ⟨w.heap.size,0,none⟩) n n) n cs) ∧ Hid (WRows Root.W 40 wr (fun g => w.heap.size < g ∧ g < wr.heap.size) lab cs l k) ∧ Ext w wr) (fun i _ => n - (intOf i).toNat)
 case atStart => exact ⟨0,_,fun _ => 0,Nat.zero_le _,rfl,HO,WRows.zero _ _ _ _ _ _ _,HX.out⟩
 case round =>
  obtain ⟨k,cs,lab,hk,rfl,HO2,HU,hx⟩:=hrel
  have HX2:=hid hx
  clear hx
  by_cases hlt : (k : Int) < (n : Int)
  rotate_left
  ·have e : Hid (k = n):=by show k = n;omega
   go_wp2
   go_ret
   refine ⟨_,_,rfl,⟨HLL.out,cs,fun g => if w.heap.size < g then lab g else 0,⟨own_base HO2.out (Nat.zero_le _),fun g hg => ?_⟩,fun i hi x hxi => ?_⟩,HX2.out⟩
   ·have e : some w.heap.size = some g:=hg
    injection e with e
    subst e
    exact ⟨⟨Nat.le_refl _,(HO2.out.lt _ rfl).2⟩,if_neg (Nat.lt_irrefl _)⟩
   ·obtain ⟨row,hr,hj⟩:=HU.out i (by have h:=e.out;omega) x hxi
    exact ⟨row,Root.W_good.mono hr fun g hg => ⟨⟨by have h:=hg.1.1;omega,hg.1.2⟩,(if_pos hg.1.1).trans hg.2⟩,hj⟩
  obtain ⟨b,o,rfl⟩:=HS.out.addr (by omega)
  obtain ⟨x,row,hxk,-,hrw,hc⟩:=(HS.out.ext Root.R_good HX2.out).at_ (k:=k) (by omega)
  have hrg:=hid (SlR.range Root.R_good hrw hc)
  have hln : Hid ((Tryz.prog.info? 149).map (·.size) = some row.length):=by show _ = _;rw [Root.R_good.len hrw];exact Root.size_laws
  have HRW:=hid hrw
  have HXK:=hid hxk
  have HKW:=hid (Nat.le_trans (wtl_at Root.wt hxk) HW0.out)
  have HLT : Hid (k < n):=by show k < n;omega
  clear hrw hc hxk
  go_wp2_with (refine wpList_load_mid rfl 149 _ rfl b (o + k * 40) rfl row _ hrg.out Tryz.underlying149 rfl hln.out ?_)
  refine (toRoot_any x _ _ S HRW.out HKW.out).mono ?_
  rintro e w2 ⟨cv,rfl,hW,hx2⟩
  have HWW:=hid hW
  have HO3:=hid (own_ext HO2.out hx2)
  have z0 : w.heap.size < wr.heap.size:=(HO2.out.lt _ rfl).2
  have z1 : wr.heap.size ≤ w2.heap.size:=hx2.size
  have HX3:=hid hx2
  have hcz : cv.toArray.size = 40:=Eq.trans (List.size_toArray ..) (Root.W_good.len hW)
  have hth : Hid (w2.there w.heap.size (k * 40) cv.toArray.size):=by show World.there _ _ _ _;rw [hcz];exact own_there HO3.out HLT.out
  have hsz : Hid ((Tryz.prog.info? 97).map (·.size) = some cv.toArray.size):=by show _ = _;rw [hcz];exact Root.size_info
  have hon : Hid (cv.toArray.all (·.oneCell') = true):=all_oneCell_toArray (Root.W_one hW)
  clear hx2 hW hcz
  go_wp2_with (refine wpList_store_mid rfl 97 _ _ rfl w.heap.size (k * 40) cv.toArray rfl rfl hth.out hsz.out hon.out ?_)
  go_roundw
  case rel =>
   have hl3 : cs.length = n * 40:=HO2.out.1
   have hkn:=HLT.out
   have hcl:=Root.W_good.len HWW.out
   have cc : Chg (fun g => g = w.heap.size) w2 (w2.setCells w.heap.size (k * 40) cv):=Chg.cells (S:=fun g => g = w.heap.size) rfl cv _ (Chg.refl _ _)
   have hsize : w2.heap.size ≤ (w2.setCells w.heap.size (k * 40) cv).heap.size:=cc.size
   refine ⟨k + 1,putAt cs (k * 40) cv,_,by omega,by go_num,hid (own_cells cv (k * 40) HO3.out),hid (WRows.step (b:=wr.heap.size) Root.W_good HU.out (fun g hg => hg.2) (Chg.trans (HX3.out.chg _) cc) (fun g hg q => by have h1:=hg.1;have h2 : g = w.heap.size:=q;omega) (fun g hg => ⟨hg.1,by have h:=hg.2;show g < (w2.setCells _ _ cv).heap.size;omega⟩) HXK.out (Root.W_good.mono (Root.W_good.chg HWW.out cc (fun g hg q => by have h1:=hg.1;have h2 : g = w.heap.size:=q;omega)) (fun g hg => ⟨⟨by have h1:=hg.1;omega,by have h:=hg.2;show g < (w2.setCells _ _ cv).heap.size;omega⟩,hg.1⟩)) (fun j hj => putAt_lt _ _ _ _ hj) (fun j hj => putAt_at _ _ _ _ (by omega) (by omega))),?_⟩
   exact (HX2.out.tr HX3.out).cells (Nat.le_refl _) cv _
  case measure => have h:=HLT.out;simp [intOf];omega

end Go.Proofs.YtoegjiigaoanbaaGreat
namespace Go.Proofs.YtoegjiigaoanbaaGreat
open Go.RowKit Go.Deep
set_option linter.unnecessarySimpa false
set_option maxHeartbeats 400000000
open Go.Lib (hid)

set_option maxRecDepth 8000 in
theorem eqRootS_same (A B : Option Addr) (n c d : Nat) (l : List Root) (w : World) (S S' : Nat → Prop) (ha : SlR Root.R 40 w S A n l) (hb : SlR Root.R 40 w S' B n l) (hm : n ≤ 9223372036854775807) :
  Calls Tryz.prog 52 #[.slice A n c,.slice B n d] w fun e w' => e = .returned (.bool true) ∧ Ext w w':=by
 have HA:=hid ha
 have HB:=hid hb
 clear ha hb
 go_enter Tryz.func52,Tryz.ntmps52
 go_wp2
 go_loopw [5] (fun i wr => ∃ (k : Nat),k ≤ n ∧ i = .int .i64 k ∧ Ext w wr) (fun i _ => n - (intOf i).toNat)
 case atStart => exact ⟨0,Nat.zero_le _,rfl,Ext.refl' _⟩
 case round =>
  obtain ⟨k,hk,rfl,hx⟩:=hrel
  have HX:=hid hx
  clear hx
  by_cases hlt : (k : Int) < (n : Int)
  rotate_left
  ·go_wp2
   go_ret
   exact ⟨rfl,HX.out⟩
  obtain ⟨b,o,rfl⟩:=HA.out.addr (by omega)
  obtain ⟨b2,o2,rfl⟩:=HB.out.addr (by omega)
  obtain ⟨x,row,hxk,-,hrw,hc⟩:=(HA.out.ext Root.R_good HX.out).at_ (k:=k) (by omega)
  obtain ⟨y,row2,hyk,-,hrw2,hc2⟩:=(HB.out.ext Root.R_good HX.out).at_ (k:=k) (by omega)
  rw [hxk] at hyk
  injection hyk with hyk
  subst hyk
  have rx:=hid (SlR.range Root.R_good hrw hc)
  have ry:=hid (SlR.range Root.R_good hrw2 hc2)
  have RX:=hid hrw
  have RY:=hid hrw2
  have l1 : Hid ((Tryz.prog.info? 97).map (·.size) = some row.length):=by show _ = _;rw [Root.R_good.len hrw];exact Root.size_info
  have l2 : Hid ((Tryz.prog.info? 97).map (·.size) = some row2.length):=by show _ = _;rw [Root.R_good.len hrw2];exact Root.size_info
  have KX : Hid (∀ wq,Ext wr wq → wq.rangeAt b (o + k * 40) row):=fun wq q j v hv => q.co (rx.out j v hv)
  have KY : Hid (∀ wq,Ext wr wq → wq.rangeAt b2 (o2 + k * 40) row2):=fun wq q j v hv => q.co (ry.out j v hv)
  have hk0 : (0 : Int) ≤ (k : Int):=by omega
  clear hrw hrw2 hc hc2 hxk
  go_wp2
  refine region_class (fun w' => Ext wr w') (by kernel_rfl) (by kernel_rfl) ((Ext.refl' _).dr) ?_
  repeat (first|go_big_quiet_skip|(go_big_quiet_want;first|(refine quiet_load 97 _ rfl b (o + k * 40) rfl row _ KX.out Tryz.underlying97 rfl l1.out ?_;(try simp only [Act.put,List.setIfInBounds_toArray,List.set_cons_zero,List.set_cons_succ]);go_big_quiet_on)|(refine quiet_load 97 _ rfl b2 (o2 + k * 40) rfl row2 _ KY.out Tryz.underlying97 rfl l2.out ?_;(try simp only [Act.put,List.setIfInBounds_toArray,List.set_cons_zero,List.set_cons_succ]);go_big_quiet_on)|(unfold Oper.quiet;apply Exists.intro;refine ⟨fun wq hq => ?_,?_⟩;(go_simp;first|done|rfl|(go_at_call 105;exact (eqRoot_same x row row2 _ S S' (Root.R_good.ext RX.out hq) (Root.R_good.ext RY.out hq)).mono fun e w2 h2 => ⟨h2.1,hq.tr h2.2⟩));(try simp only [Act.put,List.setIfInBounds_toArray,List.set_cons_zero,List.set_cons_succ]);go_big_quiet_on)))
  refine wpQuiet_nil ?_
  intro wq hq
  have XE:=hid hq
  clear hq
  go_wp2
  go_roundw
  case rel => exact ⟨k + 1,by omega,by go_num,HX.out.tr XE.out⟩
  case measure => simp [intOf];omega

end Go.Proofs.YtoegjiigaoanbaaGreat
namespace Go.Proofs.YtoegjiigaoanbaaGreat
open Go.RowKit Go.Deep
set_option linter.unnecessarySimpa false
set_option maxHeartbeats 400000000
open Go.Lib (hid)

/-! ### GWorld -/
structure GWorld where
 now_ : Int
 token_ : Int
 mem_ : Mem
 shelf_ : Shelf
 holds_ : List Hold
 roots_ : List Root
 hist_ : List Wrote
deriving Inhabited
def GWorld.wt (x : GWorld) : Nat:=Mem.wt x.mem_ + Shelf.wt x.shelf_ + x.holds_.length + wtl Root.wt x.roots_ + wtl Wrote.wt x.hist_
def GWorld.R (w : World) (S : Nat → Prop) (cs : List Value) (x : GWorld) : Prop:=∃ (v0 : List Value) (v1 : List Value) (A2 : Option Addr) (n2 c2 : Nat) (A3 : Option Addr) (n3 c3 : Nat) (A4 : Option Addr) (n4 c4 : Nat),cs = [.int .i64 x.now_,.int .i64 x.token_] ++ v0 ++ v1 ++ [.slice A2 n2 c2,.slice A3 n3 c3,.slice A4 n4 c4] ∧ Mem.R w S v0 x.mem_ ∧ Shelf.R w S v1 x.shelf_ ∧ (n2 ≤ c2 ∧ n2 ≤ 9223372036854775807 ∧ Sl w S 3 A2 n2 (x.holds_.flatMap Hold.cells)) ∧ (n3 ≤ c3 ∧ n3 ≤ 9223372036854775807 ∧ SlR Root.R 40 w S A3 n3 x.roots_) ∧ (n4 ≤ c4 ∧ n4 ≤ 9223372036854775807 ∧ SlR Wrote.R 3 w S A4 n4 x.hist_)
def GWorld.W (w : World) (S : Nat → Prop) (cs : List Value) (x : GWorld) : Prop:=∃ (v0 : List Value) (v1 : List Value) (A2 : Option Addr) (n2 c2 : Nat) (A3 : Option Addr) (n3 c3 : Nat) (A4 : Option Addr) (n4 c4 : Nat) (lab : Nat → Nat),cs = [.int .i64 x.now_,.int .i64 x.token_] ++ v0 ++ v1 ++ [.slice A2 n2 c2,.slice A3 n3 c3,.slice A4 n4 c4] ∧ Mem.W w (fun g => S g ∧ lab g = 0) v0 x.mem_ ∧ Shelf.W w (fun g => S g ∧ lab g = 1) v1 x.shelf_ ∧ (n2 ≤ c2 ∧ n2 ≤ 9223372036854775807 ∧ OwS w (fun g => S g ∧ lab g = 2) 166 3 A2 n2 c2 (x.holds_.flatMap Hold.cells)) ∧ (n3 ≤ c3 ∧ n3 ≤ 9223372036854775807 ∧ SlW Root.W 97 40 w (fun g => S g ∧ lab g = 3) A3 n3 c3 x.roots_) ∧ (n4 ≤ c4 ∧ n4 ≤ 9223372036854775807 ∧ SlW Wrote.W 171 3 w (fun g => S g ∧ lab g = 4) A4 n4 c4 x.hist_)
theorem GWorld.R_good : Good GWorld.R 9:=⟨fun {_ _ _ _} h => by
  obtain ⟨v0,v1,A2,n2,c2,A3,n3,c3,A4,n4,c4,rfl,h0,h1,⟨kh2,mh2,h2⟩,⟨kh3,mh3,h3⟩,⟨kh4,mh4,h4⟩⟩:=h
  simp [Mem.R_good.len h0,Shelf.R_good.len h1],
 fun {_ _ _ _ _ _} h k hd => by
  obtain ⟨v0,v1,A2,n2,c2,A3,n3,c3,A4,n4,c4,rfl,h0,h1,⟨kh2,mh2,h2⟩,⟨kh3,mh3,h3⟩,⟨kh4,mh4,h4⟩⟩:=h
  exact ⟨_,_,_,_,_,_,_,_,_,_,_,rfl,Mem.R_good.chg h0 k hd,Shelf.R_good.chg h1 k hd,⟨kh2,mh2,h2.chg k hd⟩,⟨kh3,mh3,h3.chg Root.R_good k hd⟩,⟨kh4,mh4,h4.chg Wrote.R_good k hd⟩⟩,
 fun {_ _ _ _ _} h hs => by
  obtain ⟨v0,v1,A2,n2,c2,A3,n3,c3,A4,n4,c4,rfl,h0,h1,⟨kh2,mh2,h2⟩,⟨kh3,mh3,h3⟩,⟨kh4,mh4,h4⟩⟩:=h
  exact ⟨_,_,_,_,_,_,_,_,_,_,_,rfl,Mem.R_good.mono h0 hs,Shelf.R_good.mono h1 hs,⟨kh2,mh2,h2.mono hs⟩,⟨kh3,mh3,h3.mono Root.R_good hs⟩,⟨kh4,mh4,h4.mono Wrote.R_good hs⟩⟩⟩
theorem GWorld.W_good : Good GWorld.W 9:=⟨fun {_ _ _ _} h => by
  obtain ⟨v0,v1,A2,n2,c2,A3,n3,c3,A4,n4,c4,lab,rfl,h0,h1,⟨kh2,mh2,h2⟩,⟨kh3,mh3,h3⟩,⟨kh4,mh4,h4⟩⟩:=h
  simp [Mem.W_good.len h0,Shelf.W_good.len h1],
 fun {_ _ _ _ _ _} h k hd => by
  obtain ⟨v0,v1,A2,n2,c2,A3,n3,c3,A4,n4,c4,lab,rfl,h0,h1,⟨kh2,mh2,h2⟩,⟨kh3,mh3,h3⟩,⟨kh4,mh4,h4⟩⟩:=h
  exact ⟨_,_,_,_,_,_,_,_,_,_,_,lab,rfl,Mem.W_good.chg h0 k fun i hi => hd i hi.1,Shelf.W_good.chg h1 k fun i hi => hd i hi.1,⟨kh2,mh2,h2.chg k fun i hi => hd i hi.1⟩,⟨kh3,mh3,h3.chg Root.W_good k fun i hi => hd i hi.1⟩,⟨kh4,mh4,h4.chg Wrote.W_good k fun i hi => hd i hi.1⟩⟩,
 fun {_ _ _ _ _} h hs => by
  obtain ⟨v0,v1,A2,n2,c2,A3,n3,c3,A4,n4,c4,lab,rfl,h0,h1,⟨kh2,mh2,h2⟩,⟨kh3,mh3,h3⟩,⟨kh4,mh4,h4⟩⟩:=h
  exact ⟨_,_,_,_,_,_,_,_,_,_,_,lab,rfl,Mem.W_good.mono h0 fun i hi => ⟨hs i hi.1,hi.2⟩,Shelf.W_good.mono h1 fun i hi => ⟨hs i hi.1,hi.2⟩,⟨kh2,mh2,h2.mono fun i _ hi => ⟨hs i hi.1,hi.2⟩⟩,⟨kh3,mh3,h3.mono Root.W_good fun i hi => ⟨hs i hi.1,hi.2⟩⟩,⟨kh4,mh4,h4.mono Wrote.W_good fun i hi => ⟨hs i hi.1,hi.2⟩⟩⟩⟩
theorem GWorld.W_R {w : World} {S : Nat → Prop} {cs : List Value} {x : GWorld} (h : GWorld.W w S cs x) : GWorld.R w S cs x:=by
 obtain ⟨v0,v1,A2,n2,c2,A3,n3,c3,A4,n4,c4,lab,rfl,h0,h1,⟨kh2,mh2,h2⟩,⟨kh3,mh3,h3⟩,⟨kh4,mh4,h4⟩⟩:=h
 exact ⟨_,_,_,_,_,_,_,_,_,_,_,rfl,Mem.R_good.mono (Mem.W_R h0) fun i hi => hi.1,Shelf.R_good.mono (Shelf.W_R h1) fun i hi => hi.1,⟨kh2,mh2,h2.sl.mono fun i hi => hi.1⟩,⟨kh3,mh3,(h3.slr Root.R_good Root.W_R).mono Root.R_good fun i hi => hi.1⟩,⟨kh4,mh4,(h4.slr Wrote.R_good Wrote.W_R).mono Wrote.R_good fun i hi => hi.1⟩⟩
theorem GWorld.R_cells {w : World} {S : Nat → Prop} {cs : List Value} {x : GWorld} (h : GWorld.R w S cs x) : ∃ (A0 : Option Addr) (n0 c0 : Nat) (A1 : Option Addr) (n1 c1 : Nat) (A2 : Option Addr) (n2 c2 : Nat) (A3 : Option Addr) (n3 c3 : Nat) (A4 : Option Addr) (n4 c4 : Nat),cs = [.int .i64 x.now_,.int .i64 x.token_,.int .i64 x.mem_.clock_,.slice A0 n0 c0,.slice A1 n1 c1,.int .i64 x.shelf_.count_,.slice A2 n2 c2,.slice A3 n3 c3,.slice A4 n4 c4]:=by
 obtain ⟨v0,v1,A2,n2,c2,A3,n3,c3,A4,n4,c4,rfl,h0,h1,⟨kh2,mh2,h2⟩,⟨kh3,mh3,h3⟩,⟨kh4,mh4,h4⟩⟩:=h
 obtain ⟨P0_0,p0_0,q0_0,rfl⟩:=Mem.R_cells h0
 obtain ⟨P1_0,p1_0,q1_0,rfl⟩:=Shelf.R_cells h1
 exact ⟨P0_0,p0_0,q0_0,P1_0,p1_0,q1_0,A2,n2,c2,A3,n3,c3,A4,n4,c4,rfl⟩
theorem GWorld.W_cells {w : World} {S : Nat → Prop} {cs : List Value} {x : GWorld} (h : GWorld.W w S cs x) : ∃ (A0 : Option Addr) (n0 c0 : Nat) (A1 : Option Addr) (n1 c1 : Nat) (A2 : Option Addr) (n2 c2 : Nat) (A3 : Option Addr) (n3 c3 : Nat) (A4 : Option Addr) (n4 c4 : Nat),cs = [.int .i64 x.now_,.int .i64 x.token_,.int .i64 x.mem_.clock_,.slice A0 n0 c0,.slice A1 n1 c1,.int .i64 x.shelf_.count_,.slice A2 n2 c2,.slice A3 n3 c3,.slice A4 n4 c4]:=by
 obtain ⟨v0,v1,A2,n2,c2,A3,n3,c3,A4,n4,c4,lab,rfl,h0,h1,⟨kh2,mh2,h2⟩,⟨kh3,mh3,h3⟩,⟨kh4,mh4,h4⟩⟩:=h
 obtain ⟨P0_0,p0_0,q0_0,rfl⟩:=Mem.W_cells h0
 obtain ⟨P1_0,p1_0,q1_0,rfl⟩:=Shelf.W_cells h1
 exact ⟨P0_0,p0_0,q0_0,P1_0,p1_0,q1_0,A2,n2,c2,A3,n3,c3,A4,n4,c4,rfl⟩
set_option maxRecDepth 8000 in
theorem opens_GWorld : Opens Tryz.prog 38 (fun w cs (x : GWorld) => GWorld.R w (fun _ => True) cs x):=by
 intro H enc w base spare held fuel cs x h
 obtain ⟨xs,n,_,_,hlen,hxl,hf⟩:=DataW.trod_struct Tryz.underlying38 h
 rw [show Tryz.prog.cellsOf 38 = 9 from by kernel_rfl] at hlen
 have hxl' : xs.length = 7:=hxl
 have h0 : DataW.trod enc Tryz.prog w base spare held n 3 ((cs.drop 0).take (Tryz.prog.cellsOf 3)) = xs[0]?:=hf 0 _ rfl
 rw [show Tryz.prog.cellsOf 3 = 1 from by kernel_rfl,List.getElem?_eq_getElem (show 0 < xs.length by omega)] at h0
 obtain ⟨f0,e0,-,-⟩:=DataW.trod_int Tryz.underlying3 h0
 have h1 : DataW.trod enc Tryz.prog w base spare held n 3 ((cs.drop 1).take (Tryz.prog.cellsOf 3)) = xs[1]?:=hf 1 _ rfl
 rw [show Tryz.prog.cellsOf 3 = 1 from by kernel_rfl,List.getElem?_eq_getElem (show 1 < xs.length by omega)] at h1
 obtain ⟨f1,e1,-,-⟩:=DataW.trod_int Tryz.underlying3 h1
 have h2 : DataW.trod enc Tryz.prog w base spare held n 31 ((cs.drop 2).take (Tryz.prog.cellsOf 31)) = xs[2]?:=hf 2 _ rfl
 rw [show Tryz.prog.cellsOf 31 = 2 from by kernel_rfl,List.getElem?_eq_getElem (show 2 < xs.length by omega)] at h2
 obtain ⟨f2,r2⟩:=opens_Mem H enc w base spare held n _ _ h2
 have h3 : DataW.trod enc Tryz.prog w base spare held n 33 ((cs.drop 4).take (Tryz.prog.cellsOf 33)) = xs[3]?:=hf 3 _ rfl
 rw [show Tryz.prog.cellsOf 33 = 2 from by kernel_rfl,List.getElem?_eq_getElem (show 3 < xs.length by omega)] at h3
 obtain ⟨f3,r3⟩:=opens_Shelf H enc w base spare held n _ _ h3
 have h4 : DataW.trod enc Tryz.prog w base spare held n 34 ((cs.drop 6).take (Tryz.prog.cellsOf 34)) = xs[4]?:=hf 4 _ rfl
 rw [show Tryz.prog.cellsOf 34 = 1 from by kernel_rfl,List.getElem?_eq_getElem (show 4 < xs.length by omega)] at h4
 obtain ⟨f4,A4,n4,c4,e4,g4,g4',-,-,s4⟩:=opens_flat Tryz.underlying34 (by kernel_rfl) (by omega) Hold.cells_length opens_Hold H enc w base spare held n _ _ h4
 have h5 : DataW.trod enc Tryz.prog w base spare held n 35 ((cs.drop 7).take (Tryz.prog.cellsOf 35)) = xs[5]?:=hf 5 _ rfl
 rw [show Tryz.prog.cellsOf 35 = 1 from by kernel_rfl,List.getElem?_eq_getElem (show 5 < xs.length by omega)] at h5
 obtain ⟨f5,A5,n5,c5,e5,g5,g5',s5⟩:=opens_deep Root.R_good Tryz.underlying35 (by kernel_rfl) (by omega) opens_Root H enc w base spare held n _ _ h5
 have h6 : DataW.trod enc Tryz.prog w base spare held n 36 ((cs.drop 8).take (Tryz.prog.cellsOf 36)) = xs[6]?:=hf 6 _ rfl
 rw [show Tryz.prog.cellsOf 36 = 1 from by kernel_rfl,List.getElem?_eq_getElem (show 6 < xs.length by omega)] at h6
 obtain ⟨f6,A6,n6,c6,e6,g6,g6',s6⟩:=opens_deep Wrote.R_good Tryz.underlying36 (by kernel_rfl) (by omega) opens_Wrote H enc w base spare held n _ _ h6
 clear h0 h1 h2 h3 h4 h5 h6 hf h hxl hxl'
 match cs,hlen with
 | [q0,q1,q2,q3,q4,q5,q6,q7,q8],_ =>
  simp only [List.drop_succ_cons,List.drop_zero,List.take_succ_cons,List.take_zero,List.cons.injEq,and_true] at e0 e1 e4 e5 e6
  simp only [List.drop_succ_cons,List.drop_zero,List.take_succ_cons,List.take_zero] at r2 r3
  subst e0
  subst e1
  subst e4
  subst e5
  subst e6
  exact ⟨⟨f0,f1,f2,f3,f4,f5,f6⟩,_,_,_,_,_,_,_,_,_,_,_,rfl,r2,r3,⟨g4,Nat.le_trans g4 g4',s4⟩,⟨g5,Nat.le_trans g5 g5',s5⟩,⟨g6,Nat.le_trans g6 g6',s6⟩⟩
set_option maxRecDepth 8000 in
theorem szGWorld_any (x : GWorld) (cs : List Value) (q : Int) (w : World) (S : Nat → Prop) (h : GWorld.R w S cs x) (hq0 : 0 ≤ q) (hq2 : q ≤ 1048576) :
  Calls Tryz.prog 6 #[.agg cs.toArray,.int .i64 q] w fun e w' => ∃ r : Int,e = .returned (.int .i64 r) ∧ Left r q (GWorld.wt x) ∧ Ext w w':=by
 obtain ⟨v0,v1,A2,n2,c2,A3,n3,c3,A4,n4,c4,rfl,h0,h1,⟨kh2,mh2,h2⟩,⟨kh3,mh3,h3⟩,⟨kh4,mh4,h4⟩⟩:=h
 obtain ⟨A0,n0,c0,rfl⟩:=Mem.R_cells h0
 obtain ⟨A1,n1,c1,rfl⟩:=Shelf.R_cells h1
 have H0:=hid h0
 have H1:=hid h1
 have H2:=hid h2
 have H3:=hid h3
 have H4:=hid h4
 clear h0 h1 h2 h3 h4
 simp only [List.cons_append,List.nil_append]
 go_enter Tryz.func6,Tryz.ntmps6
 go_wp2_with fail
 refine (szMem_any x.mem_ _ (q) _ S (Mem.R_good.ext H0.out (((Ext.refl' w).al _))) hq0 hq2).mono ?_
 rintro e w1 ⟨r0,rfl,Q0,x1⟩
 replace Q0:=hid Q0
 have X1 : Ext w w1:=Ext.tr (((Ext.refl' w).al _)) x1
 have b1 : Hid (Bx w1 w.heap.size 38 #[.int .i64 x.now_,.int .i64 x.token_,.int .i64 x.mem_.clock_,.slice A0 n0 c0,.slice A1 n1 c1,.int .i64 x.shelf_.count_,.slice A2 n2 c2,.slice A3 n3 c3,.slice A4 n4 c4]):=Bx.ext (Bx.new' _ _ _ rfl) x1
 clear x1
 have R0 : Hid (Left r0 q (Mem.wt x.mem_)):=Q0
 by_cases g0 : 0 ≤ r0
 rotate_left
 ·have e0 : r0 = -1:=by have a:=R0.out;unfold Left at a;omega
  subst e0
  clear g0
  go_wp2
  go_ret
  exact ⟨-1,rfl,by have a:=R0.out;unfold Left GWorld.wt at *;omega,X1⟩
 have u0 : r0 ≤ 1048576:=by have a:=R0.out;unfold Left at a;omega
 have ca1_4 : w1.cell? ⟨w.heap.size,4,none⟩ = some (.slice A1 n1 c1):=b1.out.cell 4
 have ca1_5 : w1.cell? ⟨w.heap.size,5,none⟩ = some (.int .i64 x.shelf_.count_):=b1.out.cell 5
 go_wp2_with fail
 refine (szShelf_any x.shelf_ _ (r0) _ S (Shelf.R_good.ext H1.out (X1)) g0 u0).mono ?_
 rintro e w2 ⟨r1,rfl,Q1,x2⟩
 replace Q1:=hid Q1
 have X2 : Ext w w2:=Ext.tr (X1) x2
 have b2 : Hid (Bx w2 w.heap.size 38 #[.int .i64 x.now_,.int .i64 x.token_,.int .i64 x.mem_.clock_,.slice A0 n0 c0,.slice A1 n1 c1,.int .i64 x.shelf_.count_,.slice A2 n2 c2,.slice A3 n3 c3,.slice A4 n4 c4]):=Bx.ext (b1.out) x2
 clear x2
 have R1 : Hid (Left r1 q (Mem.wt x.mem_ + Shelf.wt x.shelf_)):=by show Left _ _ _;have a:=R0.out;have b:=Q1.out;unfold Left at *;omega
 by_cases g1 : 0 ≤ r1
 rotate_left
 ·have e1 : r1 = -1:=by have a:=R1.out;unfold Left at a;omega
  subst e1
  clear g1
  go_wp2
  go_ret
  exact ⟨-1,rfl,by have a:=R1.out;unfold Left GWorld.wt at *;omega,X2⟩
 have u1 : r1 ≤ 1048576:=by have a:=R1.out;unfold Left at a;omega
 have ca2_6 : w2.cell? ⟨w.heap.size,6,none⟩ = some (.slice A2 n2 c2):=b2.out.cell 6
 go_wp2_with fail
 have L2:=hid (H2.out.flen Hold.cells_length (by omega))
 refine (szHoldS_any _ _ _ (r1) _ g1 u1 mh2).mono ?_
 rintro e w3 ⟨rfl,xq⟩
 have x3:=Ext.of_eq xq
 clear xq
 have Q2 : Hid (Left (if (n2 : Int) ≤ r1 then r1 - n2 else -1) r1 (x.holds_.length)):=by show Left _ _ _;rw [L2.out];exact Left.of_if
 generalize (if (n2 : Int) ≤ r1 then r1 - n2 else -1) = r2 at Q2
 have X3 : Ext w w3:=Ext.tr (X2) x3
 have b3 : Hid (Bx w3 w.heap.size 38 #[.int .i64 x.now_,.int .i64 x.token_,.int .i64 x.mem_.clock_,.slice A0 n0 c0,.slice A1 n1 c1,.int .i64 x.shelf_.count_,.slice A2 n2 c2,.slice A3 n3 c3,.slice A4 n4 c4]):=Bx.ext (b2.out) x3
 clear x3
 have R2 : Hid (Left r2 q (Mem.wt x.mem_ + Shelf.wt x.shelf_ + x.holds_.length)):=by show Left _ _ _;have a:=R1.out;have b:=Q2.out;unfold Left at *;omega
 by_cases g2 : 0 ≤ r2
 rotate_left
 ·have e2 : r2 = -1:=by have a:=R2.out;unfold Left at a;omega
  subst e2
  clear g2
  go_wp2
  go_ret
  exact ⟨-1,rfl,by have a:=R2.out;unfold Left GWorld.wt at *;omega,X3⟩
 have u2 : r2 ≤ 1048576:=by have a:=R2.out;unfold Left at a;omega
 have ca3_7 : w3.cell? ⟨w.heap.size,7,none⟩ = some (.slice A3 n3 c3):=b3.out.cell 7
 go_wp2_with fail
 refine (szRootS_any _ _ _ x.roots_ (r2) _ S (SlR.ext Root.R_good H3.out (X3)) mh3 g2 u2).mono ?_
 rintro e w4 ⟨r3,rfl,Q3,x4⟩
 replace Q3:=hid Q3
 have X4 : Ext w w4:=Ext.tr (X3) x4
 have b4 : Hid (Bx w4 w.heap.size 38 #[.int .i64 x.now_,.int .i64 x.token_,.int .i64 x.mem_.clock_,.slice A0 n0 c0,.slice A1 n1 c1,.int .i64 x.shelf_.count_,.slice A2 n2 c2,.slice A3 n3 c3,.slice A4 n4 c4]):=Bx.ext (b3.out) x4
 clear x4
 have R3 : Hid (Left r3 q (Mem.wt x.mem_ + Shelf.wt x.shelf_ + x.holds_.length + wtl Root.wt x.roots_)):=by show Left _ _ _;have a:=R2.out;have b:=Q3.out;unfold Left at *;omega
 by_cases g3 : 0 ≤ r3
 rotate_left
 ·have e3 : r3 = -1:=by have a:=R3.out;unfold Left at a;omega
  subst e3
  clear g3
  go_wp2
  go_ret
  exact ⟨-1,rfl,by have a:=R3.out;unfold Left GWorld.wt at *;omega,X4⟩
 have u3 : r3 ≤ 1048576:=by have a:=R3.out;unfold Left at a;omega
 have ca4_8 : w4.cell? ⟨w.heap.size,8,none⟩ = some (.slice A4 n4 c4):=b4.out.cell 8
 go_wp2_with fail
 refine (szWroteS_any _ _ _ x.hist_ (r3) _ S (SlR.ext Wrote.R_good H4.out (X4)) mh4 g3 u3).mono ?_
 rintro e w5 ⟨r4,rfl,Q4,x5⟩
 replace Q4:=hid Q4
 have X5 : Ext w w5:=Ext.tr (X4) x5
 have b5 : Hid (Bx w5 w.heap.size 38 #[.int .i64 x.now_,.int .i64 x.token_,.int .i64 x.mem_.clock_,.slice A0 n0 c0,.slice A1 n1 c1,.int .i64 x.shelf_.count_,.slice A2 n2 c2,.slice A3 n3 c3,.slice A4 n4 c4]):=Bx.ext (b4.out) x5
 clear x5
 have R4 : Hid (Left r4 q (Mem.wt x.mem_ + Shelf.wt x.shelf_ + x.holds_.length + wtl Root.wt x.roots_ + wtl Wrote.wt x.hist_)):=by show Left _ _ _;have a:=R3.out;have b:=Q4.out;unfold Left at *;omega
 by_cases g4 : 0 ≤ r4
 rotate_left
 ·have e4 : r4 = -1:=by have a:=R4.out;unfold Left at a;omega
  subst e4
  clear g4
  go_wp2
  go_ret
  exact ⟨-1,rfl,by have a:=R4.out;unfold Left GWorld.wt at *;omega,X5⟩
 have u4 : r4 ≤ 1048576:=by have a:=R4.out;unfold Left at a;omega
 go_wp2
 go_ret
 exact ⟨r4,rfl,R4.out,X5⟩
set_option maxRecDepth 8000 in
theorem toGWorld_any (x : GWorld) (cs : List Value) (w : World) (S : Nat → Prop) (h : GWorld.R w S cs x) (hw : GWorld.wt x ≤ 1048576) :
  Calls Tryz.prog 9 #[.agg cs.toArray] w fun e w' => ∃ cs',e = .returned (.agg cs'.toArray) ∧ GWorld.W w' (fun g => w.heap.size ≤ g ∧ g < w'.heap.size) cs' x ∧ Ext w w':=by
 obtain ⟨v0,v1,A2,n2,c2,A3,n3,c3,A4,n4,c4,rfl,h0,h1,⟨kh2,mh2,h2⟩,⟨kh3,mh3,h3⟩,⟨kh4,mh4,h4⟩⟩:=h
 obtain ⟨A0,n0,c0,rfl⟩:=Mem.R_cells h0
 obtain ⟨A1,n1,c1,rfl⟩:=Shelf.R_cells h1
 unfold GWorld.wt at hw
 have W_0 : Mem.wt x.mem_ ≤ 1048576:=by omega
 have W_1 : Shelf.wt x.shelf_ ≤ 1048576:=by omega
 have l2:=h2.flen Hold.cells_length (by omega)
 have n_2 : n2 ≤ 1048576:=by omega
 have l3:=h3.1
 have t3:=wtl_len Root.wt x.roots_
 have n_3 : n3 ≤ 1048576:=by omega
 have W_3 : wtl Root.wt x.roots_ ≤ 1048576:=by omega
 have l4:=h4.1
 have t4:=wtl_len Wrote.wt x.hist_
 have n_4 : n4 ≤ 1048576:=by omega
 have W_4 : wtl Wrote.wt x.hist_ ≤ 1048576:=by omega
 have H0:=hid h0
 have H1:=hid h1
 have H2:=hid h2
 have H3:=hid h3
 have H4:=hid h4
 clear h0 h1 h2 h3 h4 hw l2 l3 l4 t3 t4
 simp only [List.cons_append,List.nil_append]
 go_enter Tryz.func9,Tryz.ntmps9
 go_wp2_with fail
 refine (toMem_any x.mem_ _ _ S (Mem.R_good.ext H0.out ((((Ext.refl' w).al _).al _).al _)) W_0).mono ?_
 rintro e w1 ⟨cv,rfl,o0,x1⟩
 replace o0:=hid o0
 obtain ⟨B0,p0,d0,rfl⟩:=Mem.W_cells o0.out
 have z1 : w.heap.size + 3 ≤ w1.heap.size:=by have h:=x1.size;(try simp at h);omega
 have ba1 : Hid (Bx w1 (w.heap.size) 38 #[.int .i64 x.now_,.int .i64 x.token_,.int .i64 x.mem_.clock_,.slice A0 n0 c0,.slice A1 n1 c1,.int .i64 x.shelf_.count_,.slice A2 n2 c2,.slice A3 n3 c3,.slice A4 n4 c4]):=Bx.ext (((Bx.new' _ _ _ rfl).al _).al _) x1
 have br1 : Hid (Bx w1 (w.heap.size + 1) 58 #[.int .i64 0,.int .i64 0,.int .i64 0,.slice none 0 0,.slice none 0 0,.int .i64 0,.slice none 0 0,.slice none 0 0,.slice none 0 0]):=Bx.ext ((Bx.new' _ _ _ (by simp)).al _) x1
 have bo1 : Hid (Bx w1 (w.heap.size + 2) 58 #[.int .i64 x.now_,.int .i64 x.token_,.int .i64 0,.slice none 0 0,.slice none 0 0,.int .i64 0,.slice none 0 0,.slice none 0 0,.slice none 0 0]):=Bx.ext (Bx.new' _ _ _ (by simp)) x1
 have X1 : Ext w w1:=Ext.tr ((((Ext.refl' w).al _).al _).al _) x1
 replace o0 : Hid (Mem.W w1 (fun g => w.heap.size + 3 ≤ g ∧ g < w1.heap.size) _ x.mem_):=Mem.W_good.mono o0.out (fun g hg => by have h1:=hg.1;have h2:=hg.2;constructor <;> (try simp at h1) <;> omega)
 clear x1
 have ca1_4 : w1.cell? ⟨w.heap.size,4,none⟩ = some (.slice A1 n1 c1):=ba1.out.cell 4
 have ca1_5 : w1.cell? ⟨w.heap.size,5,none⟩ = some (.int .i64 x.shelf_.count_):=ba1.out.cell 5
 have co1_2 : w1.cell? ⟨w.heap.size + 2,2,none⟩ = some (.int .i64 0):=bo1.out.cell 2
 have co1_3 : w1.cell? ⟨w.heap.size + 2,3,none⟩ = some (.slice none 0 0):=bo1.out.cell 3
 have fo1_2 : w1.frozen? ⟨w.heap.size + 2,2,none⟩ = false:=bo1.out.frozen 2
 have fo1_3 : w1.frozen? ⟨w.heap.size + 2,3,none⟩ = false:=bo1.out.frozen 3
 go_wp2_with fail
 refine (toShelf_any x.shelf_ _ _ S (Shelf.R_good.ext H1.out (((X1).sc2 _).sc2 _)) W_1).mono ?_
 rintro e w2 ⟨cv,rfl,o1,x2⟩
 replace o1:=hid o1
 obtain ⟨B1,p1,d1,rfl⟩:=Shelf.W_cells o1.out
 have z2 : w.heap.size + 3 ≤ w2.heap.size:=by have h:=x2.size;(try simp at h);omega
 have y2 : w1.heap.size ≤ w2.heap.size:=by have h:=x2.size;(try simp at h);exact h
 have ba2 : Hid (Bx w2 (w.heap.size) 38 #[.int .i64 x.now_,.int .i64 x.token_,.int .i64 x.mem_.clock_,.slice A0 n0 c0,.slice A1 n1 c1,.int .i64 x.shelf_.count_,.slice A2 n2 c2,.slice A3 n3 c3,.slice A4 n4 c4]):=Bx.ext (((ba1.out).far2 _).far2 _) x2
 have br2 : Hid (Bx w2 (w.heap.size + 1) 58 #[.int .i64 0,.int .i64 0,.int .i64 0,.slice none 0 0,.slice none 0 0,.int .i64 0,.slice none 0 0,.slice none 0 0,.slice none 0 0]):=Bx.ext (((br1.out).far2 _).far2 _) x2
 have bo2 : Hid (Bx w2 (w.heap.size + 2) 58 #[.int .i64 x.now_,.int .i64 x.token_,.int .i64 x.mem_.clock_,.slice B0 p0 d0,.slice none 0 0,.int .i64 0,.slice none 0 0,.slice none 0 0,.slice none 0 0]):=Bx.ext ((((bo1.out).set_ _ _).set_ _ _).cast (by first|rfl|simp only [List.setIfInBounds_toArray,List.set_cons_succ,List.set_cons_zero])) x2
 have X2 : Ext w w2:=Ext.tr (((X1).sc2 _).sc2 _) x2
 replace o0:=hid (Mem.W_good.chg o0.out (Chg.trans (((Chg.refl (fun g => g = w.heap.size + 2) _).sc rfl _).sc rfl _) (x2.chg _)) (fun g hg q => by have h1:=hg.1;have hq3 : g = w.heap.size + 2:=q;omega))
 replace o1 : Hid (Shelf.W w2 (fun g => w1.heap.size ≤ g ∧ g < w2.heap.size) _ x.shelf_):=Shelf.W_good.mono o1.out (fun g hg => by have h1:=hg.1;have h2:=hg.2;constructor <;> (try simp at h1) <;> omega)
 clear x2
 have ca2_6 : w2.cell? ⟨w.heap.size,6,none⟩ = some (.slice A2 n2 c2):=ba2.out.cell 6
 have co2_4 : w2.cell? ⟨w.heap.size + 2,4,none⟩ = some (.slice none 0 0):=bo2.out.cell 4
 have co2_5 : w2.cell? ⟨w.heap.size + 2,5,none⟩ = some (.int .i64 0):=bo2.out.cell 5
 have fo2_4 : w2.frozen? ⟨w.heap.size + 2,4,none⟩ = false:=bo2.out.frozen 4
 have fo2_5 : w2.frozen? ⟨w.heap.size + 2,5,none⟩ = false:=bo2.out.frozen 5
 go_wp2_with fail
 refine (toHoldS_any _ _ _ _ _ S (H2.out.ext (((X2).sc2 _).sc2 _)) n_2).mono ?_
 rintro e w3 ⟨B2,d2,rfl,o2,x3⟩
 have K2 : Hid (n2 ≤ d2):=own_cap o2
 replace o2:=hid (OwS.of_own o2)
 have z3 : w.heap.size + 3 ≤ w3.heap.size:=by have h:=x3.size;(try simp at h);omega
 have y3 : w2.heap.size ≤ w3.heap.size:=by have h:=x3.size;(try simp at h);exact h
 have ba3 : Hid (Bx w3 (w.heap.size) 38 #[.int .i64 x.now_,.int .i64 x.token_,.int .i64 x.mem_.clock_,.slice A0 n0 c0,.slice A1 n1 c1,.int .i64 x.shelf_.count_,.slice A2 n2 c2,.slice A3 n3 c3,.slice A4 n4 c4]):=Bx.ext (((ba2.out).far2 _).far2 _) x3
 have br3 : Hid (Bx w3 (w.heap.size + 1) 58 #[.int .i64 0,.int .i64 0,.int .i64 0,.slice none 0 0,.slice none 0 0,.int .i64 0,.slice none 0 0,.slice none 0 0,.slice none 0 0]):=Bx.ext (((br2.out).far2 _).far2 _) x3
 have bo3 : Hid (Bx w3 (w.heap.size + 2) 58 #[.int .i64 x.now_,.int .i64 x.token_,.int .i64 x.mem_.clock_,.slice B0 p0 d0,.slice B1 p1 d1,.int .i64 x.shelf_.count_,.slice none 0 0,.slice none 0 0,.slice none 0 0]):=Bx.ext ((((bo2.out).set_ _ _).set_ _ _).cast (by first|rfl|simp only [List.setIfInBounds_toArray,List.set_cons_succ,List.set_cons_zero])) x3
 have X3 : Ext w w3:=Ext.tr (((X2).sc2 _).sc2 _) x3
 replace o0:=hid (Mem.W_good.chg o0.out (Chg.trans (((Chg.refl (fun g => g = w.heap.size + 2) _).sc rfl _).sc rfl _) (x3.chg _)) (fun g hg q => by have h1:=hg.1;have hq3 : g = w.heap.size + 2:=q;omega))
 replace o1:=hid (Shelf.W_good.chg o1.out (Chg.trans (((Chg.refl (fun g => g = w.heap.size + 2) _).sc rfl _).sc rfl _) (x3.chg _)) (fun g hg q => by have h1:=hg.1;have hq3 : g = w.heap.size + 2:=q;omega))
 replace o2 : Hid (OwS w3 (fun g => w2.heap.size ≤ g ∧ g < w3.heap.size) 166 3 B2 n2 d2 (x.holds_.flatMap Hold.cells)):=o2.out.mono (fun g _ hg => by have h1:=hg.1;have h2:=hg.2;constructor <;> (try simp at h1) <;> omega)
 clear x3
 have ca3_7 : w3.cell? ⟨w.heap.size,7,none⟩ = some (.slice A3 n3 c3):=ba3.out.cell 7
 have co3_6 : w3.cell? ⟨w.heap.size + 2,6,none⟩ = some (.slice none 0 0):=bo3.out.cell 6
 have fo3_6 : w3.frozen? ⟨w.heap.size + 2,6,none⟩ = false:=bo3.out.frozen 6
 go_wp2_with fail
 refine (toRootS_any _ _ _ x.roots_ _ S (SlR.ext Root.R_good H3.out ((X3).sc2 _)) n_3 W_3).mono ?_
 rintro e w4 ⟨B3,d3,rfl,o3,x4⟩
 replace o3:=hid o3
 have z4 : w.heap.size + 3 ≤ w4.heap.size:=by have h:=x4.size;(try simp at h);omega
 have y4 : w3.heap.size ≤ w4.heap.size:=by have h:=x4.size;(try simp at h);exact h
 have ba4 : Hid (Bx w4 (w.heap.size) 38 #[.int .i64 x.now_,.int .i64 x.token_,.int .i64 x.mem_.clock_,.slice A0 n0 c0,.slice A1 n1 c1,.int .i64 x.shelf_.count_,.slice A2 n2 c2,.slice A3 n3 c3,.slice A4 n4 c4]):=Bx.ext ((ba3.out).far2 _) x4
 have br4 : Hid (Bx w4 (w.heap.size + 1) 58 #[.int .i64 0,.int .i64 0,.int .i64 0,.slice none 0 0,.slice none 0 0,.int .i64 0,.slice none 0 0,.slice none 0 0,.slice none 0 0]):=Bx.ext ((br3.out).far2 _) x4
 have bo4 : Hid (Bx w4 (w.heap.size + 2) 58 #[.int .i64 x.now_,.int .i64 x.token_,.int .i64 x.mem_.clock_,.slice B0 p0 d0,.slice B1 p1 d1,.int .i64 x.shelf_.count_,.slice B2 n2 d2,.slice none 0 0,.slice none 0 0]):=Bx.ext (((bo3.out).set_ _ _).cast (by first|rfl|simp only [List.setIfInBounds_toArray,List.set_cons_succ,List.set_cons_zero])) x4
 have X4 : Ext w w4:=Ext.tr ((X3).sc2 _) x4
 replace o0:=hid (Mem.W_good.chg o0.out (Chg.trans ((Chg.refl (fun g => g = w.heap.size + 2) _).sc rfl _) (x4.chg _)) (fun g hg q => by have h1:=hg.1;have hq3 : g = w.heap.size + 2:=q;omega))
 replace o1:=hid (Shelf.W_good.chg o1.out (Chg.trans ((Chg.refl (fun g => g = w.heap.size + 2) _).sc rfl _) (x4.chg _)) (fun g hg q => by have h1:=hg.1;have hq3 : g = w.heap.size + 2:=q;omega))
 replace o2:=hid (o2.out.chg (Chg.trans ((Chg.refl (fun g => g = w.heap.size + 2) _).sc rfl _) (x4.chg _)) (fun g hg q => by have h1:=hg.1;have hq3 : g = w.heap.size + 2:=q;omega))
 replace o3 : Hid (SlW Root.W 97 40 w4 (fun g => w3.heap.size ≤ g ∧ g < w4.heap.size) B3 n3 d3 x.roots_):=o3.out.mono Root.W_good (fun g hg => by have h1:=hg.1;have h2:=hg.2;constructor <;> (try simp at h1) <;> omega)
 clear x4
 have ca4_8 : w4.cell? ⟨w.heap.size,8,none⟩ = some (.slice A4 n4 c4):=ba4.out.cell 8
 have co4_7 : w4.cell? ⟨w.heap.size + 2,7,none⟩ = some (.slice none 0 0):=bo4.out.cell 7
 have fo4_7 : w4.frozen? ⟨w.heap.size + 2,7,none⟩ = false:=bo4.out.frozen 7
 go_wp2_with fail
 refine (toWroteS_any _ _ _ x.hist_ _ S (SlR.ext Wrote.R_good H4.out ((X4).sc2 _)) n_4 W_4).mono ?_
 rintro e w5 ⟨B4,d4,rfl,o4,x5⟩
 replace o4:=hid o4
 have z5 : w.heap.size + 3 ≤ w5.heap.size:=by have h:=x5.size;(try simp at h);omega
 have y5 : w4.heap.size ≤ w5.heap.size:=by have h:=x5.size;(try simp at h);exact h
 have ba5 : Hid (Bx w5 (w.heap.size) 38 #[.int .i64 x.now_,.int .i64 x.token_,.int .i64 x.mem_.clock_,.slice A0 n0 c0,.slice A1 n1 c1,.int .i64 x.shelf_.count_,.slice A2 n2 c2,.slice A3 n3 c3,.slice A4 n4 c4]):=Bx.ext ((ba4.out).far2 _) x5
 have br5 : Hid (Bx w5 (w.heap.size + 1) 58 #[.int .i64 0,.int .i64 0,.int .i64 0,.slice none 0 0,.slice none 0 0,.int .i64 0,.slice none 0 0,.slice none 0 0,.slice none 0 0]):=Bx.ext ((br4.out).far2 _) x5
 have bo5 : Hid (Bx w5 (w.heap.size + 2) 58 #[.int .i64 x.now_,.int .i64 x.token_,.int .i64 x.mem_.clock_,.slice B0 p0 d0,.slice B1 p1 d1,.int .i64 x.shelf_.count_,.slice B2 n2 d2,.slice B3 n3 d3,.slice none 0 0]):=Bx.ext (((bo4.out).set_ _ _).cast (by first|rfl|simp only [List.setIfInBounds_toArray,List.set_cons_succ,List.set_cons_zero])) x5
 have X5 : Ext w w5:=Ext.tr ((X4).sc2 _) x5
 replace o0:=hid (Mem.W_good.chg o0.out (Chg.trans ((Chg.refl (fun g => g = w.heap.size + 2) _).sc rfl _) (x5.chg _)) (fun g hg q => by have h1:=hg.1;have hq3 : g = w.heap.size + 2:=q;omega))
 replace o1:=hid (Shelf.W_good.chg o1.out (Chg.trans ((Chg.refl (fun g => g = w.heap.size + 2) _).sc rfl _) (x5.chg _)) (fun g hg q => by have h1:=hg.1;have hq3 : g = w.heap.size + 2:=q;omega))
 replace o2:=hid (o2.out.chg (Chg.trans ((Chg.refl (fun g => g = w.heap.size + 2) _).sc rfl _) (x5.chg _)) (fun g hg q => by have h1:=hg.1;have hq3 : g = w.heap.size + 2:=q;omega))
 replace o3:=hid (o3.out.chg Root.W_good (Chg.trans ((Chg.refl (fun g => g = w.heap.size + 2) _).sc rfl _) (x5.chg _)) (fun g hg q => by have h1:=hg.1;have hq3 : g = w.heap.size + 2:=q;omega))
 replace o4 : Hid (SlW Wrote.W 171 3 w5 (fun g => w4.heap.size ≤ g ∧ g < w5.heap.size) B4 n4 d4 x.hist_):=o4.out.mono Wrote.W_good (fun g hg => by have h1:=hg.1;have h2:=hg.2;constructor <;> (try simp at h1) <;> omega)
 clear x5
 have co5_0 : w5.cell? ⟨w.heap.size + 2,0,none⟩ = some (.int .i64 x.now_):=bo5.out.cell 0
 have co5_1 : w5.cell? ⟨w.heap.size + 2,1,none⟩ = some (.int .i64 x.token_):=bo5.out.cell 1
 have co5_2 : w5.cell? ⟨w.heap.size + 2,2,none⟩ = some (.int .i64 x.mem_.clock_):=bo5.out.cell 2
 have co5_3 : w5.cell? ⟨w.heap.size + 2,3,none⟩ = some (.slice B0 p0 d0):=bo5.out.cell 3
 have co5_4 : w5.cell? ⟨w.heap.size + 2,4,none⟩ = some (.slice B1 p1 d1):=bo5.out.cell 4
 have co5_5 : w5.cell? ⟨w.heap.size + 2,5,none⟩ = some (.int .i64 x.shelf_.count_):=bo5.out.cell 5
 have co5_6 : w5.cell? ⟨w.heap.size + 2,6,none⟩ = some (.slice B2 n2 d2):=bo5.out.cell 6
 have co5_7 : w5.cell? ⟨w.heap.size + 2,7,none⟩ = some (.slice B3 n3 d3):=bo5.out.cell 7
 have co5_8 : w5.cell? ⟨w.heap.size + 2,8,none⟩ = some (.slice none 0 0):=bo5.out.cell 8
 have fo5_8 : w5.frozen? ⟨w.heap.size + 2,8,none⟩ = false:=bo5.out.frozen 8
 have cr5_0 : w5.cell? ⟨w.heap.size + 1,0,none⟩ = some (.int .i64 0):=br5.out.cell 0
 have fr5_0 : w5.frozen? ⟨w.heap.size + 1,0,none⟩ = false:=br5.out.frozen 0
 have cr5_1 : w5.cell? ⟨w.heap.size + 1,1,none⟩ = some (.int .i64 0):=br5.out.cell 1
 have fr5_1 : w5.frozen? ⟨w.heap.size + 1,1,none⟩ = false:=br5.out.frozen 1
 have cr5_2 : w5.cell? ⟨w.heap.size + 1,2,none⟩ = some (.int .i64 0):=br5.out.cell 2
 have fr5_2 : w5.frozen? ⟨w.heap.size + 1,2,none⟩ = false:=br5.out.frozen 2
 have cr5_3 : w5.cell? ⟨w.heap.size + 1,3,none⟩ = some (.slice none 0 0):=br5.out.cell 3
 have fr5_3 : w5.frozen? ⟨w.heap.size + 1,3,none⟩ = false:=br5.out.frozen 3
 have cr5_4 : w5.cell? ⟨w.heap.size + 1,4,none⟩ = some (.slice none 0 0):=br5.out.cell 4
 have fr5_4 : w5.frozen? ⟨w.heap.size + 1,4,none⟩ = false:=br5.out.frozen 4
 have cr5_5 : w5.cell? ⟨w.heap.size + 1,5,none⟩ = some (.int .i64 0):=br5.out.cell 5
 have fr5_5 : w5.frozen? ⟨w.heap.size + 1,5,none⟩ = false:=br5.out.frozen 5
 have cr5_6 : w5.cell? ⟨w.heap.size + 1,6,none⟩ = some (.slice none 0 0):=br5.out.cell 6
 have fr5_6 : w5.frozen? ⟨w.heap.size + 1,6,none⟩ = false:=br5.out.frozen 6
 have cr5_7 : w5.cell? ⟨w.heap.size + 1,7,none⟩ = some (.slice none 0 0):=br5.out.cell 7
 have fr5_7 : w5.frozen? ⟨w.heap.size + 1,7,none⟩ = false:=br5.out.frozen 7
 have cr5_8 : w5.cell? ⟨w.heap.size + 1,8,none⟩ = some (.slice none 0 0):=br5.out.cell 8
 have fr5_8 : w5.frozen? ⟨w.heap.size + 1,8,none⟩ = false:=br5.out.frozen 8
 go_wp2
 refine bodyPost_ret (v:=.agg #[.int .i64 x.now_,.int .i64 x.token_,.int .i64 x.mem_.clock_,.slice B0 p0 d0,.slice B1 p1 d1,.int .i64 x.shelf_.count_,.slice B2 n2 d2,.slice B3 n3 d3,.slice B4 n4 d4]) (by simp [results,Tryz.results9,go_sem,cr5_0,cr5_1,cr5_2,cr5_3,cr5_4,cr5_5,cr5_6,cr5_7,cr5_8]) rfl ⟨[.int .i64 x.now_,.int .i64 x.token_,.int .i64 x.mem_.clock_,.slice B0 p0 d0,.slice B1 p1 d1,.int .i64 x.shelf_.count_,.slice B2 n2 d2,.slice B3 n3 d3,.slice B4 n4 d4],rfl,?_,?_⟩
 ·refine (?_ : ∀ wz,Chg (fun g => g = w.heap.size + 2 ∨ g = w.heap.size + 1) w5 wz → GWorld.W wz (fun g => w.heap.size ≤ g ∧ g < wz.heap.size) [.int .i64 x.now_,.int .i64 x.token_,.int .i64 x.mem_.clock_,.slice B0 p0 d0,.slice B1 p1 d1,.int .i64 x.shelf_.count_,.slice B2 n2 d2,.slice B3 n3 d3,.slice B4 n4 d4] x) _ (((((((((((Chg.refl (fun g => g = w.heap.size + 2 ∨ g = w.heap.size + 1) _).sc2 _).sc2 _).sc2 _).sc2 _).sc2 _).sc2 _).sc2 _).sc2 _).sc2 _).sc2 _)
  intro wz cc
  have zz:=cc.size
  exact ⟨[.int .i64 x.mem_.clock_,.slice B0 p0 d0],[.slice B1 p1 d1,.int .i64 x.shelf_.count_],B2,n2,d2,B3,n3,d3,B4,n4,d4,lb [w1.heap.size,w2.heap.size,w3.heap.size,w4.heap.size,w5.heap.size],rfl,Mem.W_good.mono (Mem.W_good.chg o0.out cc (fun g hg q => by have h1:=hg.1;have hq3 : g = w.heap.size + 2 ∨ g = w.heap.size + 1:=q;omega)) (fun g hg => ⟨⟨by have h1:=hg.1;omega,by have h2:=hg.2;omega⟩,by have h1:=hg.1;have h2:=hg.2;exact lb_here (by omega)⟩),Shelf.W_good.mono (Shelf.W_good.chg o1.out cc (fun g hg q => by have h1:=hg.1;have hq3 : g = w.heap.size + 2 ∨ g = w.heap.size + 1:=q;omega)) (fun g hg => ⟨⟨by have h1:=hg.1;omega,by have h2:=hg.2;omega⟩,by have h1:=hg.1;have h2:=hg.2;exact lb_next (by omega) (lb_here (by omega))⟩),⟨K2.out,mh2,(o2.out.chg cc (fun g hg q => by have h1:=hg.1;have hq3 : g = w.heap.size + 2 ∨ g = w.heap.size + 1:=q;omega)).mono (fun g _ hg => ⟨⟨by have h1:=hg.1;omega,by have h2:=hg.2;omega⟩,by have h1:=hg.1;have h2:=hg.2;exact lb_next (by omega) (lb_next (by omega) (lb_here (by omega)))⟩)⟩,⟨SlW.cap o3.out,mh3,(o3.out.chg Root.W_good cc (fun g hg q => by have h1:=hg.1;have hq3 : g = w.heap.size + 2 ∨ g = w.heap.size + 1:=q;omega)).mono Root.W_good (fun g hg => ⟨⟨by have h1:=hg.1;omega,by have h2:=hg.2;omega⟩,by have h1:=hg.1;have h2:=hg.2;exact lb_next (by omega) (lb_next (by omega) (lb_next (by omega) (lb_here (by omega))))⟩)⟩,⟨SlW.cap o4.out,mh4,(o4.out.chg Wrote.W_good cc (fun g hg q => by have h1:=hg.1;have hq3 : g = w.heap.size + 2 ∨ g = w.heap.size + 1:=q;omega)).mono Wrote.W_good (fun g hg => ⟨⟨by have h1:=hg.1;omega,by have h2:=hg.2;omega⟩,by have h1:=hg.1;have h2:=hg.2;exact lb_next (by omega) (lb_next (by omega) (lb_next (by omega) (lb_next (by omega) (lb_here (by omega)))))⟩)⟩⟩
 ·exact ((((((((((X5).sc2 _).sc2 _).sc2 _).sc2 _).sc2 _).sc2 _).sc2 _).sc2 _).sc2 _).sc2 _
set_option maxRecDepth 8000 in
theorem eqGWorld_same (x : GWorld) (cs cs' : List Value) (w : World) (S S' : Nat → Prop) (h : GWorld.R w S cs x) (u : GWorld.R w S' cs' x) :
  Calls Tryz.prog 14 #[.agg cs.toArray,.agg cs'.toArray] w fun e w' => e = .returned (.bool true) ∧ Ext w w':=by
 obtain ⟨v0,v1,A2,n2,c2,A3,n3,c3,A4,n4,c4,rfl,h0,h1,⟨kh2,mh2,h2⟩,⟨kh3,mh3,h3⟩,⟨kh4,mh4,h4⟩⟩:=h
 obtain ⟨A0,n0,c0,rfl⟩:=Mem.R_cells h0
 obtain ⟨A1,n1,c1,rfl⟩:=Shelf.R_cells h1
 obtain ⟨z0,z1,B2,p2,d2,B3,p3,d3,B4,p4,d4,rfl,u0,u1,⟨ku2,mu2,u2⟩,⟨ku3,mu3,u3⟩,⟨ku4,mu4,u4⟩⟩:=u
 obtain ⟨B0,p0,d0,rfl⟩:=Mem.R_cells u0
 obtain ⟨B1,p1,d1,rfl⟩:=Shelf.R_cells u1
 obtain rfl : n2 = p2:=by have a:=h2.flen Hold.cells_length (by omega);have b:=u2.flen Hold.cells_length (by omega);omega
 obtain rfl : n3 = p3:=by have a:=h3.1;have b:=u3.1;omega
 obtain rfl : n4 = p4:=by have a:=h4.1;have b:=u4.1;omega
 have H0:=hid h0
 have U0:=hid u0
 have H1:=hid h1
 have U1:=hid u1
 have H2:=hid h2
 have U2:=hid u2
 have H3:=hid h3
 have U3:=hid u3
 have H4:=hid h4
 have U4:=hid u4
 clear h0 u0 h1 u1 h2 u2 h3 u3 h4 u4
 simp only [List.cons_append,List.nil_append]
 go_enter Tryz.func14,Tryz.ntmps14
 go_wp2_with fail
 refine (eqMem_same x.mem_ _ _ _ S S' (Mem.R_good.ext H0.out (((Ext.refl' w).al _).al _)) (Mem.R_good.ext U0.out (((Ext.refl' w).al _).al _))).mono ?_
 rintro e w1 ⟨rfl,x1⟩
 have z1 : w.heap.size + 2 ≤ w1.heap.size:=by have h:=x1.size;(try simp at h);omega
 have ba1 : Hid (Bx w1 (w.heap.size) 58 #[.int .i64 x.now_,.int .i64 x.token_,.int .i64 x.mem_.clock_,.slice A0 n0 c0,.slice A1 n1 c1,.int .i64 x.shelf_.count_,.slice A2 n2 c2,.slice A3 n3 c3,.slice A4 n4 c4]):=Bx.ext ((Bx.new' _ _ _ rfl).al _) x1
 have bb1 : Hid (Bx w1 (w.heap.size + 1) 58 #[.int .i64 x.now_,.int .i64 x.token_,.int .i64 x.mem_.clock_,.slice B0 p0 d0,.slice B1 p1 d1,.int .i64 x.shelf_.count_,.slice B2 n2 d2,.slice B3 n3 d3,.slice B4 n4 d4]):=Bx.ext (Bx.new' _ _ _ (by simp)) x1
 have X1 : Ext w w1:=Ext.tr (((Ext.refl' w).al _).al _) x1
 clear x1
 have ca1_4 : w1.cell? ⟨w.heap.size,4,none⟩ = some (.slice A1 n1 c1):=ba1.out.cell 4
 have cb1_4 : w1.cell? ⟨w.heap.size + 1,4,none⟩ = some (.slice B1 p1 d1):=bb1.out.cell 4
 have ca1_5 : w1.cell? ⟨w.heap.size,5,none⟩ = some (.int .i64 x.shelf_.count_):=ba1.out.cell 5
 have cb1_5 : w1.cell? ⟨w.heap.size + 1,5,none⟩ = some (.int .i64 x.shelf_.count_):=bb1.out.cell 5
 go_wp2_with fail
 refine (eqShelf_same x.shelf_ _ _ _ S S' (Shelf.R_good.ext H1.out (X1)) (Shelf.R_good.ext U1.out (X1))).mono ?_
 rintro e w2 ⟨rfl,x2⟩
 have z2 : w.heap.size + 2 ≤ w2.heap.size:=by have h:=x2.size;(try simp at h);omega
 have ba2 : Hid (Bx w2 (w.heap.size) 58 #[.int .i64 x.now_,.int .i64 x.token_,.int .i64 x.mem_.clock_,.slice A0 n0 c0,.slice A1 n1 c1,.int .i64 x.shelf_.count_,.slice A2 n2 c2,.slice A3 n3 c3,.slice A4 n4 c4]):=Bx.ext (ba1.out) x2
 have bb2 : Hid (Bx w2 (w.heap.size + 1) 58 #[.int .i64 x.now_,.int .i64 x.token_,.int .i64 x.mem_.clock_,.slice B0 p0 d0,.slice B1 p1 d1,.int .i64 x.shelf_.count_,.slice B2 n2 d2,.slice B3 n3 d3,.slice B4 n4 d4]):=Bx.ext (bb1.out) x2
 have X2 : Ext w w2:=Ext.tr (X1) x2
 clear x2
 have ca2_6 : w2.cell? ⟨w.heap.size,6,none⟩ = some (.slice A2 n2 c2):=ba2.out.cell 6
 have cb2_6 : w2.cell? ⟨w.heap.size + 1,6,none⟩ = some (.slice B2 n2 d2):=bb2.out.cell 6
 go_wp2_with fail
 refine (eqHoldS_same _ _ _ _ _ _ _ S S' (H2.out.ext (X2)) (U2.out.ext (X2)) mh2).mono ?_
 rintro e w3 ⟨rfl,x3⟩
 have z3 : w.heap.size + 2 ≤ w3.heap.size:=by have h:=x3.size;(try simp at h);omega
 have ba3 : Hid (Bx w3 (w.heap.size) 58 #[.int .i64 x.now_,.int .i64 x.token_,.int .i64 x.mem_.clock_,.slice A0 n0 c0,.slice A1 n1 c1,.int .i64 x.shelf_.count_,.slice A2 n2 c2,.slice A3 n3 c3,.slice A4 n4 c4]):=Bx.ext (ba2.out) x3
 have bb3 : Hid (Bx w3 (w.heap.size + 1) 58 #[.int .i64 x.now_,.int .i64 x.token_,.int .i64 x.mem_.clock_,.slice B0 p0 d0,.slice B1 p1 d1,.int .i64 x.shelf_.count_,.slice B2 n2 d2,.slice B3 n3 d3,.slice B4 n4 d4]):=Bx.ext (bb2.out) x3
 have X3 : Ext w w3:=Ext.tr (X2) x3
 clear x3
 have ca3_7 : w3.cell? ⟨w.heap.size,7,none⟩ = some (.slice A3 n3 c3):=ba3.out.cell 7
 have cb3_7 : w3.cell? ⟨w.heap.size + 1,7,none⟩ = some (.slice B3 n3 d3):=bb3.out.cell 7
 go_wp2_with fail
 refine (eqRootS_same _ _ _ _ _ x.roots_ _ S S' (SlR.ext Root.R_good H3.out (X3)) (SlR.ext Root.R_good U3.out (X3)) mh3).mono ?_
 rintro e w4 ⟨rfl,x4⟩
 have z4 : w.heap.size + 2 ≤ w4.heap.size:=by have h:=x4.size;(try simp at h);omega
 have ba4 : Hid (Bx w4 (w.heap.size) 58 #[.int .i64 x.now_,.int .i64 x.token_,.int .i64 x.mem_.clock_,.slice A0 n0 c0,.slice A1 n1 c1,.int .i64 x.shelf_.count_,.slice A2 n2 c2,.slice A3 n3 c3,.slice A4 n4 c4]):=Bx.ext (ba3.out) x4
 have bb4 : Hid (Bx w4 (w.heap.size + 1) 58 #[.int .i64 x.now_,.int .i64 x.token_,.int .i64 x.mem_.clock_,.slice B0 p0 d0,.slice B1 p1 d1,.int .i64 x.shelf_.count_,.slice B2 n2 d2,.slice B3 n3 d3,.slice B4 n4 d4]):=Bx.ext (bb3.out) x4
 have X4 : Ext w w4:=Ext.tr (X3) x4
 clear x4
 have ca4_8 : w4.cell? ⟨w.heap.size,8,none⟩ = some (.slice A4 n4 c4):=ba4.out.cell 8
 have cb4_8 : w4.cell? ⟨w.heap.size + 1,8,none⟩ = some (.slice B4 n4 d4):=bb4.out.cell 8
 go_wp2_with fail
 refine (eqWroteS_same _ _ _ _ _ x.hist_ _ S S' (SlR.ext Wrote.R_good H4.out (X4)) (SlR.ext Wrote.R_good U4.out (X4)) mh4).mono ?_
 rintro e w5 ⟨rfl,x5⟩
 have z5 : w.heap.size + 2 ≤ w5.heap.size:=by have h:=x5.size;(try simp at h);omega
 have ba5 : Hid (Bx w5 (w.heap.size) 58 #[.int .i64 x.now_,.int .i64 x.token_,.int .i64 x.mem_.clock_,.slice A0 n0 c0,.slice A1 n1 c1,.int .i64 x.shelf_.count_,.slice A2 n2 c2,.slice A3 n3 c3,.slice A4 n4 c4]):=Bx.ext (ba4.out) x5
 have bb5 : Hid (Bx w5 (w.heap.size + 1) 58 #[.int .i64 x.now_,.int .i64 x.token_,.int .i64 x.mem_.clock_,.slice B0 p0 d0,.slice B1 p1 d1,.int .i64 x.shelf_.count_,.slice B2 n2 d2,.slice B3 n3 d3,.slice B4 n4 d4]):=Bx.ext (bb4.out) x5
 have X5 : Ext w w5:=Ext.tr (X4) x5
 clear x5
 go_wp2
 go_ret
 exact ⟨rfl,X5⟩

end Go.Proofs.YtoegjiigaoanbaaGreat
