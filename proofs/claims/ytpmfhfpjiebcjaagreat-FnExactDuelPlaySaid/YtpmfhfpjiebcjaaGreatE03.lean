/- Mem, Commit, Wrote, JobRun, Duel: how they read, compared. No condition. -/
import Derived.Test.YtpmfhfpjiebcjaaGreatE02
namespace Go.Proofs.YtpmfhfpjiebcjaaGreat
open Go.RowKit Go.Deep

/-! ### Mem -/
structure Mem where
 clock_ : Int
 cells_ : List Word
deriving Inhabited
def Mem.wt (x : Mem) : Nat:=x.cells_.length
def Mem.R (w : World) (S : Nat → Prop) (cs : List Value) (x : Mem) : Prop:=∃ (A0 : Option Addr) (n0 c0 : Nat),cs = [.int .i64 x.clock_,.slice A0 n0 c0] ∧ (n0 ≤ c0 ∧ n0 ≤ 9223372036854775807 ∧ Sl w S 3 A0 n0 (x.cells_.flatMap Word.cells))
def Mem.W (w : World) (S : Nat → Prop) (cs : List Value) (x : Mem) : Prop:=∃ (A0 : Option Addr) (n0 c0 : Nat) (lab : Nat → Nat),cs = [.int .i64 x.clock_,.slice A0 n0 c0] ∧ (n0 ≤ c0 ∧ n0 ≤ 9223372036854775807 ∧ OwS w (fun g => S g ∧ lab g = 0) 102 3 A0 n0 c0 (x.cells_.flatMap Word.cells))
theorem Mem.R_good : Good Mem.R 2:=⟨fun {_ _ _ _} h => by
  obtain ⟨A0,n0,c0,rfl,⟨kh0,mh0,h0⟩⟩:=h
  rfl,
 fun {_ _ _ _ _ _} h k hd => by
  obtain ⟨A0,n0,c0,rfl,⟨kh0,mh0,h0⟩⟩:=h
  exact ⟨_,_,_,rfl,⟨kh0,mh0,h0.chg k hd⟩⟩,
 fun {_ _ _ _ _} h hs => by
  obtain ⟨A0,n0,c0,rfl,⟨kh0,mh0,h0⟩⟩:=h
  exact ⟨_,_,_,rfl,⟨kh0,mh0,h0.mono hs⟩⟩⟩
theorem Mem.W_good : Good Mem.W 2:=⟨fun {_ _ _ _} h => by
  obtain ⟨A0,n0,c0,lab,rfl,⟨kh0,mh0,h0⟩⟩:=h
  rfl,
 fun {_ _ _ _ _ _} h k hd => by
  obtain ⟨A0,n0,c0,lab,rfl,⟨kh0,mh0,h0⟩⟩:=h
  exact ⟨_,_,_,lab,rfl,⟨kh0,mh0,h0.chg k fun i hi => hd i hi.1⟩⟩,
 fun {_ _ _ _ _} h hs => by
  obtain ⟨A0,n0,c0,lab,rfl,⟨kh0,mh0,h0⟩⟩:=h
  exact ⟨_,_,_,lab,rfl,⟨kh0,mh0,h0.mono fun i _ hi => ⟨hs i hi.1,hi.2⟩⟩⟩⟩
theorem Mem.W_R {w : World} {S : Nat → Prop} {cs : List Value} {x : Mem} (h : Mem.W w S cs x) : Mem.R w S cs x:=by
 obtain ⟨A0,n0,c0,lab,rfl,⟨kh0,mh0,h0⟩⟩:=h
 exact ⟨_,_,_,rfl,⟨kh0,mh0,h0.sl.mono fun i hi => hi.1⟩⟩
theorem Mem.R_cells {w : World} {S : Nat → Prop} {cs : List Value} {x : Mem} (h : Mem.R w S cs x) : ∃ (A0 : Option Addr) (n0 c0 : Nat),cs = [.int .i64 x.clock_,.slice A0 n0 c0]:=by
 obtain ⟨A0,n0,c0,rfl,⟨kh0,mh0,h0⟩⟩:=h
 exact ⟨A0,n0,c0,rfl⟩
theorem Mem.W_cells {w : World} {S : Nat → Prop} {cs : List Value} {x : Mem} (h : Mem.W w S cs x) : ∃ (A0 : Option Addr) (n0 c0 : Nat),cs = [.int .i64 x.clock_,.slice A0 n0 c0]:=by
 obtain ⟨A0,n0,c0,lab,rfl,⟨kh0,mh0,h0⟩⟩:=h
 exact ⟨A0,n0,c0,rfl⟩
set_option maxRecDepth 8000 in
set_option maxHeartbeats 8000000 in
theorem eqMem_same (x : Mem) (cs cs' : List Value) (w : World) (S S' : Nat → Prop) (h : Mem.R w S cs x) (u : Mem.R w S' cs' x) :
  Calls Tryz.prog 37 #[.agg cs.toArray,.agg cs'.toArray] w fun e w' => e = .returned (.bool true) ∧ Ext w w':=by
 obtain ⟨A0,n0,c0,rfl,⟨kh0,mh0,h0⟩⟩:=h
 obtain ⟨B0,p0,d0,rfl,⟨ku0,mu0,u0⟩⟩:=u
 obtain rfl : n0 = p0:=by have a:=h0.flen Word.cells_length (by omega);have b:=u0.flen Word.cells_length (by omega);omega
 have H0:=Lib.hid h0
 have U0:=Lib.hid u0
 clear h0 u0
 show Calls Tryz.prog _ #[.agg #[.int .i64 x.clock_,.slice A0 n0 c0],.agg #[.int .i64 x.clock_,.slice B0 n0 d0]] w _
 go_enter Tryz.func37,Tryz.ntmps37
 go_wp2_with fail
 refine (eqWordS_same _ _ _ _ _ _ _ S S' (H0.out.ext (((Ext.refl' w).al _).al _)) (U0.out.ext (((Ext.refl' w).al _).al _)) mh0).mono ?_
 rintro e w1 ⟨rfl,x1⟩
 have z1 : w.heap.size + 2 ≤ w1.heap.size:=by have h:=x1.size;(try simp at h);omega
 have ba1 : Hid (Bx w1 (w.heap.size) 27 #[.int .i64 x.clock_,.slice A0 n0 c0]):=Bx.ext ((Bx.new' _ _ _ rfl).al _) x1
 have bb1 : Hid (Bx w1 (w.heap.size + 1) 27 #[.int .i64 x.clock_,.slice B0 n0 d0]):=Bx.ext (Bx.new' _ _ _ (by simp)) x1
 have X1 : Ext w w1:=Ext.tr (((Ext.refl' w).al _).al _) x1
 clear x1
 go_wp2
 go_ret
 exact ⟨rfl,X1⟩
/-! ### Commit -/
structure Commit where
 who_ : Int
 rv_ : Int
 phase_ : Int
 at_ : Int
 wv_ : Int
 puts_ : List Row
 reads_ : List Int
deriving Inhabited
def Commit.wt (x : Commit) : Nat:=x.puts_.length + x.reads_.length
def Commit.R (w : World) (S : Nat → Prop) (cs : List Value) (x : Commit) : Prop:=∃ (A0 : Option Addr) (n0 c0 : Nat) (A1 : Option Addr) (n1 c1 : Nat),cs = [.int .i64 x.who_,.int .i64 x.rv_,.int .i64 x.phase_,.int .i64 x.at_,.int .i64 x.wv_,.slice A0 n0 c0,.slice A1 n1 c1] ∧ (n0 ≤ c0 ∧ n0 ≤ 9223372036854775807 ∧ Sl w S 2 A0 n0 (x.puts_.flatMap Row.cells)) ∧ (n1 ≤ c1 ∧ n1 ≤ 9223372036854775807 ∧ Sl w S 1 A1 n1 (ints x.reads_))
def Commit.W (w : World) (S : Nat → Prop) (cs : List Value) (x : Commit) : Prop:=∃ (A0 : Option Addr) (n0 c0 : Nat) (A1 : Option Addr) (n1 c1 : Nat) (lab : Nat → Nat),cs = [.int .i64 x.who_,.int .i64 x.rv_,.int .i64 x.phase_,.int .i64 x.at_,.int .i64 x.wv_,.slice A0 n0 c0,.slice A1 n1 c1] ∧ (n0 ≤ c0 ∧ n0 ≤ 9223372036854775807 ∧ OwS w (fun g => S g ∧ lab g = 0) 97 2 A0 n0 c0 (x.puts_.flatMap Row.cells)) ∧ (n1 ≤ c1 ∧ n1 ≤ 9223372036854775807 ∧ OwS w (fun g => S g ∧ lab g = 1) 3 1 A1 n1 c1 (ints x.reads_))
theorem Commit.R_good : Good Commit.R 7:=⟨fun {_ _ _ _} h => by
  obtain ⟨A0,n0,c0,A1,n1,c1,rfl,⟨kh0,mh0,h0⟩,⟨kh1,mh1,h1⟩⟩:=h
  rfl,
 fun {_ _ _ _ _ _} h k hd => by
  obtain ⟨A0,n0,c0,A1,n1,c1,rfl,⟨kh0,mh0,h0⟩,⟨kh1,mh1,h1⟩⟩:=h
  exact ⟨_,_,_,_,_,_,rfl,⟨kh0,mh0,h0.chg k hd⟩,⟨kh1,mh1,h1.chg k hd⟩⟩,
 fun {_ _ _ _ _} h hs => by
  obtain ⟨A0,n0,c0,A1,n1,c1,rfl,⟨kh0,mh0,h0⟩,⟨kh1,mh1,h1⟩⟩:=h
  exact ⟨_,_,_,_,_,_,rfl,⟨kh0,mh0,h0.mono hs⟩,⟨kh1,mh1,h1.mono hs⟩⟩⟩
theorem Commit.W_good : Good Commit.W 7:=⟨fun {_ _ _ _} h => by
  obtain ⟨A0,n0,c0,A1,n1,c1,lab,rfl,⟨kh0,mh0,h0⟩,⟨kh1,mh1,h1⟩⟩:=h
  rfl,
 fun {_ _ _ _ _ _} h k hd => by
  obtain ⟨A0,n0,c0,A1,n1,c1,lab,rfl,⟨kh0,mh0,h0⟩,⟨kh1,mh1,h1⟩⟩:=h
  exact ⟨_,_,_,_,_,_,lab,rfl,⟨kh0,mh0,h0.chg k fun i hi => hd i hi.1⟩,⟨kh1,mh1,h1.chg k fun i hi => hd i hi.1⟩⟩,
 fun {_ _ _ _ _} h hs => by
  obtain ⟨A0,n0,c0,A1,n1,c1,lab,rfl,⟨kh0,mh0,h0⟩,⟨kh1,mh1,h1⟩⟩:=h
  exact ⟨_,_,_,_,_,_,lab,rfl,⟨kh0,mh0,h0.mono fun i _ hi => ⟨hs i hi.1,hi.2⟩⟩,⟨kh1,mh1,h1.mono fun i _ hi => ⟨hs i hi.1,hi.2⟩⟩⟩⟩
theorem Commit.W_R {w : World} {S : Nat → Prop} {cs : List Value} {x : Commit} (h : Commit.W w S cs x) : Commit.R w S cs x:=by
 obtain ⟨A0,n0,c0,A1,n1,c1,lab,rfl,⟨kh0,mh0,h0⟩,⟨kh1,mh1,h1⟩⟩:=h
 exact ⟨_,_,_,_,_,_,rfl,⟨kh0,mh0,h0.sl.mono fun i hi => hi.1⟩,⟨kh1,mh1,h1.sl.mono fun i hi => hi.1⟩⟩
theorem Commit.R_cells {w : World} {S : Nat → Prop} {cs : List Value} {x : Commit} (h : Commit.R w S cs x) : ∃ (A0 : Option Addr) (n0 c0 : Nat) (A1 : Option Addr) (n1 c1 : Nat),cs = [.int .i64 x.who_,.int .i64 x.rv_,.int .i64 x.phase_,.int .i64 x.at_,.int .i64 x.wv_,.slice A0 n0 c0,.slice A1 n1 c1]:=by
 obtain ⟨A0,n0,c0,A1,n1,c1,rfl,⟨kh0,mh0,h0⟩,⟨kh1,mh1,h1⟩⟩:=h
 exact ⟨A0,n0,c0,A1,n1,c1,rfl⟩
theorem Commit.W_cells {w : World} {S : Nat → Prop} {cs : List Value} {x : Commit} (h : Commit.W w S cs x) : ∃ (A0 : Option Addr) (n0 c0 : Nat) (A1 : Option Addr) (n1 c1 : Nat),cs = [.int .i64 x.who_,.int .i64 x.rv_,.int .i64 x.phase_,.int .i64 x.at_,.int .i64 x.wv_,.slice A0 n0 c0,.slice A1 n1 c1]:=by
 obtain ⟨A0,n0,c0,A1,n1,c1,lab,rfl,⟨kh0,mh0,h0⟩,⟨kh1,mh1,h1⟩⟩:=h
 exact ⟨A0,n0,c0,A1,n1,c1,rfl⟩
set_option maxRecDepth 8000 in
set_option maxHeartbeats 8000000 in
theorem eqCommit_same (x : Commit) (cs cs' : List Value) (w : World) (S S' : Nat → Prop) (h : Commit.R w S cs x) (u : Commit.R w S' cs' x) :
  Calls Tryz.prog 141 #[.agg cs.toArray,.agg cs'.toArray] w fun e w' => e = .returned (.bool true) ∧ Ext w w':=by
 obtain ⟨A0,n0,c0,A1,n1,c1,rfl,⟨kh0,mh0,h0⟩,⟨kh1,mh1,h1⟩⟩:=h
 obtain ⟨B0,p0,d0,B1,p1,d1,rfl,⟨ku0,mu0,u0⟩,⟨ku1,mu1,u1⟩⟩:=u
 obtain rfl : n0 = p0:=by have a:=h0.flen Row.cells_length (by omega);have b:=u0.flen Row.cells_length (by omega);omega
 obtain rfl : n1 = p1:=by have a:=h1.len;have b:=u1.len;omega
 have H0:=Lib.hid h0
 have U0:=Lib.hid u0
 have H1:=Lib.hid h1
 have U1:=Lib.hid u1
 clear h0 u0 h1 u1
 show Calls Tryz.prog _ #[.agg #[.int .i64 x.who_,.int .i64 x.rv_,.int .i64 x.phase_,.int .i64 x.at_,.int .i64 x.wv_,.slice A0 n0 c0,.slice A1 n1 c1],.agg #[.int .i64 x.who_,.int .i64 x.rv_,.int .i64 x.phase_,.int .i64 x.at_,.int .i64 x.wv_,.slice B0 n0 d0,.slice B1 n1 d1]] w _
 go_enter Tryz.func141,Tryz.ntmps141
 go_wp2_with fail
 refine (eqRowS_same _ _ _ _ _ _ _ S S' (H0.out.ext (((Ext.refl' w).al _).al _)) (U0.out.ext (((Ext.refl' w).al _).al _)) mh0).mono ?_
 rintro e w1 ⟨rfl,x1⟩
 have z1 : w.heap.size + 2 ≤ w1.heap.size:=by have h:=x1.size;(try simp at h);omega
 have ba1 : Hid (Bx w1 (w.heap.size) 64 #[.int .i64 x.who_,.int .i64 x.rv_,.int .i64 x.phase_,.int .i64 x.at_,.int .i64 x.wv_,.slice A0 n0 c0,.slice A1 n1 c1]):=Bx.ext ((Bx.new' _ _ _ rfl).al _) x1
 have bb1 : Hid (Bx w1 (w.heap.size + 1) 64 #[.int .i64 x.who_,.int .i64 x.rv_,.int .i64 x.phase_,.int .i64 x.at_,.int .i64 x.wv_,.slice B0 n0 d0,.slice B1 n1 d1]):=Bx.ext (Bx.new' _ _ _ (by simp)) x1
 have X1 : Ext w w1:=Ext.tr (((Ext.refl' w).al _).al _) x1
 clear x1
 have ca1_6 : w1.cell? ⟨w.heap.size,6,none⟩ = some (.slice A1 n1 c1):=ba1.out.cell 6
 have cb1_6 : w1.cell? ⟨w.heap.size + 1,6,none⟩ = some (.slice B1 n1 d1):=bb1.out.cell 6
 go_wp2_with fail
 refine (eqIntS_same _ _ _ _ _ _ _ S S' (H1.out.ext (X1)) (U1.out.ext (X1)) mh1).mono ?_
 rintro e w2 ⟨rfl,x2⟩
 have z2 : w.heap.size + 2 ≤ w2.heap.size:=by have h:=x2.size;(try simp at h);omega
 have ba2 : Hid (Bx w2 (w.heap.size) 64 #[.int .i64 x.who_,.int .i64 x.rv_,.int .i64 x.phase_,.int .i64 x.at_,.int .i64 x.wv_,.slice A0 n0 c0,.slice A1 n1 c1]):=Bx.ext (ba1.out) x2
 have bb2 : Hid (Bx w2 (w.heap.size + 1) 64 #[.int .i64 x.who_,.int .i64 x.rv_,.int .i64 x.phase_,.int .i64 x.at_,.int .i64 x.wv_,.slice B0 n0 d0,.slice B1 n1 d1]):=Bx.ext (bb1.out) x2
 have X2 : Ext w w2:=Ext.tr (X1) x2
 clear x2
 go_wp2
 go_ret
 exact ⟨rfl,X2⟩
/-! ### Wrote -/
structure Wrote where
 stamp_ : Int
 who_ : Int
 puts_ : List Row
deriving Inhabited
def Wrote.wt (x : Wrote) : Nat:=x.puts_.length
def Wrote.R (w : World) (S : Nat → Prop) (cs : List Value) (x : Wrote) : Prop:=∃ (A0 : Option Addr) (n0 c0 : Nat),cs = [.int .i64 x.stamp_,.int .i64 x.who_,.slice A0 n0 c0] ∧ (n0 ≤ c0 ∧ n0 ≤ 9223372036854775807 ∧ Sl w S 2 A0 n0 (x.puts_.flatMap Row.cells))
def Wrote.W (w : World) (S : Nat → Prop) (cs : List Value) (x : Wrote) : Prop:=∃ (A0 : Option Addr) (n0 c0 : Nat) (lab : Nat → Nat),cs = [.int .i64 x.stamp_,.int .i64 x.who_,.slice A0 n0 c0] ∧ (n0 ≤ c0 ∧ n0 ≤ 9223372036854775807 ∧ OwS w (fun g => S g ∧ lab g = 0) 97 2 A0 n0 c0 (x.puts_.flatMap Row.cells))
theorem Wrote.R_good : Good Wrote.R 3:=⟨fun {_ _ _ _} h => by
  obtain ⟨A0,n0,c0,rfl,⟨kh0,mh0,h0⟩⟩:=h
  rfl,
 fun {_ _ _ _ _ _} h k hd => by
  obtain ⟨A0,n0,c0,rfl,⟨kh0,mh0,h0⟩⟩:=h
  exact ⟨_,_,_,rfl,⟨kh0,mh0,h0.chg k hd⟩⟩,
 fun {_ _ _ _ _} h hs => by
  obtain ⟨A0,n0,c0,rfl,⟨kh0,mh0,h0⟩⟩:=h
  exact ⟨_,_,_,rfl,⟨kh0,mh0,h0.mono hs⟩⟩⟩
theorem Wrote.W_good : Good Wrote.W 3:=⟨fun {_ _ _ _} h => by
  obtain ⟨A0,n0,c0,lab,rfl,⟨kh0,mh0,h0⟩⟩:=h
  rfl,
 fun {_ _ _ _ _ _} h k hd => by
  obtain ⟨A0,n0,c0,lab,rfl,⟨kh0,mh0,h0⟩⟩:=h
  exact ⟨_,_,_,lab,rfl,⟨kh0,mh0,h0.chg k fun i hi => hd i hi.1⟩⟩,
 fun {_ _ _ _ _} h hs => by
  obtain ⟨A0,n0,c0,lab,rfl,⟨kh0,mh0,h0⟩⟩:=h
  exact ⟨_,_,_,lab,rfl,⟨kh0,mh0,h0.mono fun i _ hi => ⟨hs i hi.1,hi.2⟩⟩⟩⟩
theorem Wrote.W_R {w : World} {S : Nat → Prop} {cs : List Value} {x : Wrote} (h : Wrote.W w S cs x) : Wrote.R w S cs x:=by
 obtain ⟨A0,n0,c0,lab,rfl,⟨kh0,mh0,h0⟩⟩:=h
 exact ⟨_,_,_,rfl,⟨kh0,mh0,h0.sl.mono fun i hi => hi.1⟩⟩
theorem Wrote.R_cells {w : World} {S : Nat → Prop} {cs : List Value} {x : Wrote} (h : Wrote.R w S cs x) : ∃ (A0 : Option Addr) (n0 c0 : Nat),cs = [.int .i64 x.stamp_,.int .i64 x.who_,.slice A0 n0 c0]:=by
 obtain ⟨A0,n0,c0,rfl,⟨kh0,mh0,h0⟩⟩:=h
 exact ⟨A0,n0,c0,rfl⟩
theorem Wrote.W_cells {w : World} {S : Nat → Prop} {cs : List Value} {x : Wrote} (h : Wrote.W w S cs x) : ∃ (A0 : Option Addr) (n0 c0 : Nat),cs = [.int .i64 x.stamp_,.int .i64 x.who_,.slice A0 n0 c0]:=by
 obtain ⟨A0,n0,c0,lab,rfl,⟨kh0,mh0,h0⟩⟩:=h
 exact ⟨A0,n0,c0,rfl⟩theorem Wrote.size_info : (Tryz.prog.info? 53).map (·.size) = some 3:=by kernel_rfl
theorem Wrote.W_one {w : World} {S : Nat → Prop} {cs : List Value} {x : Wrote} (h : Wrote.W w S cs x) : ∀ v ∈ cs,v.oneCell' = true:=by
 obtain ⟨A0,n0,c0,rfl⟩:=Wrote.W_cells h
 simp [Value.oneCell']
set_option maxRecDepth 8000 in
set_option maxHeartbeats 8000000 in
theorem eqWrote_same (x : Wrote) (cs cs' : List Value) (w : World) (S S' : Nat → Prop) (h : Wrote.R w S cs x) (u : Wrote.R w S' cs' x) :
  Calls Tryz.prog 93 #[.agg cs.toArray,.agg cs'.toArray] w fun e w' => e = .returned (.bool true) ∧ Ext w w':=by
 obtain ⟨A0,n0,c0,rfl,⟨kh0,mh0,h0⟩⟩:=h
 obtain ⟨B0,p0,d0,rfl,⟨ku0,mu0,u0⟩⟩:=u
 obtain rfl : n0 = p0:=by have a:=h0.flen Row.cells_length (by omega);have b:=u0.flen Row.cells_length (by omega);omega
 have H0:=Lib.hid h0
 have U0:=Lib.hid u0
 clear h0 u0
 show Calls Tryz.prog _ #[.agg #[.int .i64 x.stamp_,.int .i64 x.who_,.slice A0 n0 c0],.agg #[.int .i64 x.stamp_,.int .i64 x.who_,.slice B0 n0 d0]] w _
 go_enter Tryz.func93,Tryz.ntmps93
 go_wp2_with fail
 refine (eqRowS_same _ _ _ _ _ _ _ S S' (H0.out.ext (((Ext.refl' w).al _).al _)) (U0.out.ext (((Ext.refl' w).al _).al _)) mh0).mono ?_
 rintro e w1 ⟨rfl,x1⟩
 have z1 : w.heap.size + 2 ≤ w1.heap.size:=by have h:=x1.size;(try simp at h);omega
 have ba1 : Hid (Bx w1 (w.heap.size) 53 #[.int .i64 x.stamp_,.int .i64 x.who_,.slice A0 n0 c0]):=Bx.ext ((Bx.new' _ _ _ rfl).al _) x1
 have bb1 : Hid (Bx w1 (w.heap.size + 1) 53 #[.int .i64 x.stamp_,.int .i64 x.who_,.slice B0 n0 d0]):=Bx.ext (Bx.new' _ _ _ (by simp)) x1
 have X1 : Ext w w1:=Ext.tr (((Ext.refl' w).al _).al _) x1
 clear x1
 go_wp2
 go_ret
 exact ⟨rfl,X1⟩
set_option maxRecDepth 8000 in
set_option maxHeartbeats 8000000 in
theorem eqWroteS_same (A B : Option Addr) (n c d : Nat) (l : List Wrote) (w : World) (S S' : Nat → Prop) (ha : SlR Wrote.R 3 w S A n l) (hb : SlR Wrote.R 3 w S' B n l) (hm : n ≤ 9223372036854775807) :
  Calls Tryz.prog 39 #[.slice A n c,.slice B n d] w fun e w' => e = .returned (.bool true) ∧ Ext w w':=by
 have HA:=Lib.hid ha
 have HB:=Lib.hid hb
 clear ha hb
 go_enter Tryz.func39,Tryz.ntmps39
 go_wp2
 go_loopw [5] (fun i wr => ∃ (k : Nat),k ≤ n ∧ i = .int .i64 k ∧ Ext w wr) (fun i _ => n - (intOf i).toNat)
 case atStart => exact ⟨0,Nat.zero_le _,rfl,Ext.refl' _⟩
 case round =>
  obtain ⟨k,hk,rfl,hx⟩:=hrel
  have HX:=Lib.hid hx
  clear hx
  by_cases hlt : (k : Int) < (n : Int)
  rotate_left
  ·go_wp2
   go_ret
   exact ⟨rfl,HX.out⟩
  obtain ⟨b,o,rfl⟩:=HA.out.addr (by omega)
  obtain ⟨b2,o2,rfl⟩:=HB.out.addr (by omega)
  obtain ⟨x,row,hxk,-,hrw,hc⟩:=(HA.out.ext Wrote.R_good HX.out).at_ (k:=k) (by omega)
  obtain ⟨y,row2,hyk,-,hrw2,hc2⟩:=(HB.out.ext Wrote.R_good HX.out).at_ (k:=k) (by omega)
  rw [hxk] at hyk
  injection hyk with hyk
  subst hyk
  have rx:=Lib.hid (SlR.range Wrote.R_good hrw hc)
  have ry:=Lib.hid (SlR.range Wrote.R_good hrw2 hc2)
  have RX:=Lib.hid hrw
  have RY:=Lib.hid hrw2
  have l1 : Hid ((Tryz.prog.info? 53).map (·.size) = some row.length):=by show _ = _;rw [Wrote.R_good.len hrw];exact Wrote.size_info
  have l2 : Hid ((Tryz.prog.info? 53).map (·.size) = some row2.length):=by show _ = _;rw [Wrote.R_good.len hrw2];exact Wrote.size_info
  have KX : Hid (∀ wq,Ext wr wq → wq.rangeAt b (o + k * 3) row):=fun wq q j v hv => q.co (rx.out j v hv)
  have KY : Hid (∀ wq,Ext wr wq → wq.rangeAt b2 (o2 + k * 3) row2):=fun wq q j v hv => q.co (ry.out j v hv)
  have hk0 : (0 : Int) ≤ (k : Int):=by omega
  clear hrw hrw2 hc hc2 hxk
  go_wp2
  refine region_class (fun w' => Ext wr w') (by kernel_rfl) (by kernel_rfl) ((Ext.refl' _).dr) ?_
  repeat (first|go_big_quiet_skip|(go_big_quiet_want;first|(refine quiet_load 53 _ rfl b (o + k * 3) rfl row _ KX.out Tryz.underlying53 rfl l1.out ?_;(try simp only [Act.put,List.setIfInBounds_toArray,List.set_cons_zero,List.set_cons_succ]);go_big_quiet_on)|(refine quiet_load 53 _ rfl b2 (o2 + k * 3) rfl row2 _ KY.out Tryz.underlying53 rfl l2.out ?_;(try simp only [Act.put,List.setIfInBounds_toArray,List.set_cons_zero,List.set_cons_succ]);go_big_quiet_on)|(unfold Oper.quiet;apply Exists.intro;refine ⟨fun wq hq => ?_,?_⟩;(go_simp;first|done|rfl|(go_at_call 93;exact (eqWrote_same x row row2 _ S S' (Wrote.R_good.ext RX.out hq) (Wrote.R_good.ext RY.out hq)).mono fun e w2 h2 => ⟨h2.1,hq.tr h2.2⟩));(try simp only [Act.put,List.setIfInBounds_toArray,List.set_cons_zero,List.set_cons_succ]);go_big_quiet_on)))
  refine wpQuiet_nil ?_
  intro wq hq
  have XE:=Lib.hid hq
  clear hq
  go_wp2
  go_roundw
  case rel => exact ⟨k + 1,by omega,by go_num,HX.out.tr XE.out⟩
  case measure => simp [intOf];omega
/-! ### JobRun -/
structure JobRun where
 phase_ : Int
 tries_ : Int
 rv_ : Int
 at_ : Int
 stamp_ : Int
 seen_ : List Row
 busy_ : Bool
 probe_ : Probe
 commit_ : Commit
deriving Inhabited
def JobRun.wt (x : JobRun) : Nat:=x.seen_.length + Commit.wt x.commit_
def JobRun.R (w : World) (S : Nat → Prop) (cs : List Value) (x : JobRun) : Prop:=∃ (A0 : Option Addr) (n0 c0 : Nat) (v1 : List Value),cs = [.int .i64 x.phase_,.int .i64 x.tries_,.int .i64 x.rv_,.int .i64 x.at_,.int .i64 x.stamp_,.slice A0 n0 c0,.bool x.busy_,.int .i64 x.probe_.cell_,.int .i64 x.probe_.phase_,.int .i64 x.probe_.ver_,.int .i64 x.probe_.val_] ++ v1 ∧ (n0 ≤ c0 ∧ n0 ≤ 9223372036854775807 ∧ Sl w S 2 A0 n0 (x.seen_.flatMap Row.cells)) ∧ Commit.R w S v1 x.commit_
def JobRun.W (w : World) (S : Nat → Prop) (cs : List Value) (x : JobRun) : Prop:=∃ (A0 : Option Addr) (n0 c0 : Nat) (v1 : List Value) (lab : Nat → Nat),cs = [.int .i64 x.phase_,.int .i64 x.tries_,.int .i64 x.rv_,.int .i64 x.at_,.int .i64 x.stamp_,.slice A0 n0 c0,.bool x.busy_,.int .i64 x.probe_.cell_,.int .i64 x.probe_.phase_,.int .i64 x.probe_.ver_,.int .i64 x.probe_.val_] ++ v1 ∧ (n0 ≤ c0 ∧ n0 ≤ 9223372036854775807 ∧ OwS w (fun g => S g ∧ lab g = 0) 97 2 A0 n0 c0 (x.seen_.flatMap Row.cells)) ∧ Commit.W w (fun g => S g ∧ lab g = 1) v1 x.commit_
theorem JobRun.R_good : Good JobRun.R 18:=⟨fun {_ _ _ _} h => by
  obtain ⟨A0,n0,c0,v1,rfl,⟨kh0,mh0,h0⟩,h1⟩:=h
  simp [Commit.R_good.len h1],
 fun {_ _ _ _ _ _} h k hd => by
  obtain ⟨A0,n0,c0,v1,rfl,⟨kh0,mh0,h0⟩,h1⟩:=h
  exact ⟨_,_,_,_,rfl,⟨kh0,mh0,h0.chg k hd⟩,Commit.R_good.chg h1 k hd⟩,
 fun {_ _ _ _ _} h hs => by
  obtain ⟨A0,n0,c0,v1,rfl,⟨kh0,mh0,h0⟩,h1⟩:=h
  exact ⟨_,_,_,_,rfl,⟨kh0,mh0,h0.mono hs⟩,Commit.R_good.mono h1 hs⟩⟩
theorem JobRun.W_good : Good JobRun.W 18:=⟨fun {_ _ _ _} h => by
  obtain ⟨A0,n0,c0,v1,lab,rfl,⟨kh0,mh0,h0⟩,h1⟩:=h
  simp [Commit.W_good.len h1],
 fun {_ _ _ _ _ _} h k hd => by
  obtain ⟨A0,n0,c0,v1,lab,rfl,⟨kh0,mh0,h0⟩,h1⟩:=h
  exact ⟨_,_,_,_,lab,rfl,⟨kh0,mh0,h0.chg k fun i hi => hd i hi.1⟩,Commit.W_good.chg h1 k fun i hi => hd i hi.1⟩,
 fun {_ _ _ _ _} h hs => by
  obtain ⟨A0,n0,c0,v1,lab,rfl,⟨kh0,mh0,h0⟩,h1⟩:=h
  exact ⟨_,_,_,_,lab,rfl,⟨kh0,mh0,h0.mono fun i _ hi => ⟨hs i hi.1,hi.2⟩⟩,Commit.W_good.mono h1 fun i hi => ⟨hs i hi.1,hi.2⟩⟩⟩
theorem JobRun.W_R {w : World} {S : Nat → Prop} {cs : List Value} {x : JobRun} (h : JobRun.W w S cs x) : JobRun.R w S cs x:=by
 obtain ⟨A0,n0,c0,v1,lab,rfl,⟨kh0,mh0,h0⟩,h1⟩:=h
 exact ⟨_,_,_,_,rfl,⟨kh0,mh0,h0.sl.mono fun i hi => hi.1⟩,Commit.R_good.mono (Commit.W_R h1) fun i hi => hi.1⟩
theorem JobRun.R_cells {w : World} {S : Nat → Prop} {cs : List Value} {x : JobRun} (h : JobRun.R w S cs x) : ∃ (A0 : Option Addr) (n0 c0 : Nat) (A1 : Option Addr) (n1 c1 : Nat) (A2 : Option Addr) (n2 c2 : Nat),cs = ((.int .i64 x.phase_)::(.int .i64 x.tries_)::(.int .i64 x.rv_)::(.int .i64 x.at_)::(.int .i64 x.stamp_)::(.slice A0 n0 c0)::(.bool x.busy_)::(.int .i64 x.probe_.cell_)::(.int .i64 x.probe_.phase_)::(.int .i64 x.probe_.ver_)::(.int .i64 x.probe_.val_)::(.int .i64 x.commit_.who_)::(.int .i64 x.commit_.rv_)::(.int .i64 x.commit_.phase_)::(.int .i64 x.commit_.at_)::(.int .i64 x.commit_.wv_)::(.slice A1 n1 c1)::(.slice A2 n2 c2)::[]):=by
 obtain ⟨A0,n0,c0,v1,rfl,⟨kh0,mh0,h0⟩,h1⟩:=h
 obtain ⟨P1_0,p1_0,q1_0,P1_1,p1_1,q1_1,rfl⟩:=Commit.R_cells h1
 exact ⟨A0,n0,c0,P1_0,p1_0,q1_0,P1_1,p1_1,q1_1,rfl⟩
theorem JobRun.W_cells {w : World} {S : Nat → Prop} {cs : List Value} {x : JobRun} (h : JobRun.W w S cs x) : ∃ (A0 : Option Addr) (n0 c0 : Nat) (A1 : Option Addr) (n1 c1 : Nat) (A2 : Option Addr) (n2 c2 : Nat),cs = ((.int .i64 x.phase_)::(.int .i64 x.tries_)::(.int .i64 x.rv_)::(.int .i64 x.at_)::(.int .i64 x.stamp_)::(.slice A0 n0 c0)::(.bool x.busy_)::(.int .i64 x.probe_.cell_)::(.int .i64 x.probe_.phase_)::(.int .i64 x.probe_.ver_)::(.int .i64 x.probe_.val_)::(.int .i64 x.commit_.who_)::(.int .i64 x.commit_.rv_)::(.int .i64 x.commit_.phase_)::(.int .i64 x.commit_.at_)::(.int .i64 x.commit_.wv_)::(.slice A1 n1 c1)::(.slice A2 n2 c2)::[]):=by
 obtain ⟨A0,n0,c0,v1,lab,rfl,⟨kh0,mh0,h0⟩,h1⟩:=h
 obtain ⟨P1_0,p1_0,q1_0,P1_1,p1_1,q1_1,rfl⟩:=Commit.W_cells h1
 exact ⟨A0,n0,c0,P1_0,p1_0,q1_0,P1_1,p1_1,q1_1,rfl⟩theorem JobRun.size_info : (Tryz.prog.info? 68).map (·.size) = some 18:=by kernel_rfl
theorem JobRun.W_one {w : World} {S : Nat → Prop} {cs : List Value} {x : JobRun} (h : JobRun.W w S cs x) : ∀ v ∈ cs,v.oneCell' = true:=by
 obtain ⟨A0,n0,c0,A1,n1,c1,A2,n2,c2,rfl⟩:=JobRun.W_cells h
 simp [Value.oneCell']
set_option maxRecDepth 8000 in
set_option maxHeartbeats 8000000 in
theorem eqJobRun_same (x : JobRun) (cs cs' : List Value) (w : World) (S S' : Nat → Prop) (h : JobRun.R w S cs x) (u : JobRun.R w S' cs' x) :
  Calls Tryz.prog 92 #[.agg cs.toArray,.agg cs'.toArray] w fun e w' => e = .returned (.bool true) ∧ Ext w w':=by
 obtain ⟨A0,n0,c0,v1,rfl,⟨kh0,mh0,h0⟩,h1⟩:=h
 obtain ⟨A1,n1,c1,A2,n2,c2,rfl⟩:=Commit.R_cells h1
 obtain ⟨B0,p0,d0,z1,rfl,⟨ku0,mu0,u0⟩,u1⟩:=u
 obtain ⟨B1,p1,d1,B2,p2,d2,rfl⟩:=Commit.R_cells u1
 obtain rfl : n0 = p0:=by have a:=h0.flen Row.cells_length (by omega);have b:=u0.flen Row.cells_length (by omega);omega
 have H0:=Lib.hid h0
 have U0:=Lib.hid u0
 have H1:=Lib.hid h1
 have U1:=Lib.hid u1
 clear h0 u0 h1 u1
 simp only [List.cons_append,List.nil_append]
 go_enter Tryz.func92,Tryz.ntmps92
 go_wp2_with fail
 refine (eqRowS_same _ _ _ _ _ _ _ S S' (H0.out.ext (((Ext.refl' w).al _).al _)) (U0.out.ext (((Ext.refl' w).al _).al _)) mh0).mono ?_
 rintro e w1 ⟨rfl,x1⟩
 have z1 : w.heap.size + 2 ≤ w1.heap.size:=by have h:=x1.size;(try simp at h);omega
 have ba1 : Hid (Bx w1 (w.heap.size) 68 (List.toArray ((.int .i64 x.phase_)::(.int .i64 x.tries_)::(.int .i64 x.rv_)::(.int .i64 x.at_)::(.int .i64 x.stamp_)::(.slice A0 n0 c0)::(.bool x.busy_)::(.int .i64 x.probe_.cell_)::(.int .i64 x.probe_.phase_)::(.int .i64 x.probe_.ver_)::(.int .i64 x.probe_.val_)::(.int .i64 x.commit_.who_)::(.int .i64 x.commit_.rv_)::(.int .i64 x.commit_.phase_)::(.int .i64 x.commit_.at_)::(.int .i64 x.commit_.wv_)::(.slice A1 n1 c1)::(.slice A2 n2 c2)::[]))):=Bx.ext ((Bx.new' _ _ _ rfl).al _) x1
 have bb1 : Hid (Bx w1 (w.heap.size + 1) 68 (List.toArray ((.int .i64 x.phase_)::(.int .i64 x.tries_)::(.int .i64 x.rv_)::(.int .i64 x.at_)::(.int .i64 x.stamp_)::(.slice B0 n0 d0)::(.bool x.busy_)::(.int .i64 x.probe_.cell_)::(.int .i64 x.probe_.phase_)::(.int .i64 x.probe_.ver_)::(.int .i64 x.probe_.val_)::(.int .i64 x.commit_.who_)::(.int .i64 x.commit_.rv_)::(.int .i64 x.commit_.phase_)::(.int .i64 x.commit_.at_)::(.int .i64 x.commit_.wv_)::(.slice B1 p1 d1)::(.slice B2 p2 d2)::[]))):=Bx.ext (Bx.new' _ _ _ (by simp)) x1
 have X1 : Ext w w1:=Ext.tr (((Ext.refl' w).al _).al _) x1
 clear x1
 have ca1_6 : w1.cell? ⟨w.heap.size,6,none⟩ = some (.bool x.busy_):=ba1.out.cell 6
 have cb1_6 : w1.cell? ⟨w.heap.size + 1,6,none⟩ = some (.bool x.busy_):=bb1.out.cell 6
 have ca1_7 : w1.cell? ⟨w.heap.size,7,none⟩ = some (.int .i64 x.probe_.cell_):=ba1.out.cell 7
 have cb1_7 : w1.cell? ⟨w.heap.size + 1,7,none⟩ = some (.int .i64 x.probe_.cell_):=bb1.out.cell 7
 have ca1_8 : w1.cell? ⟨w.heap.size,8,none⟩ = some (.int .i64 x.probe_.phase_):=ba1.out.cell 8
 have cb1_8 : w1.cell? ⟨w.heap.size + 1,8,none⟩ = some (.int .i64 x.probe_.phase_):=bb1.out.cell 8
 have ca1_9 : w1.cell? ⟨w.heap.size,9,none⟩ = some (.int .i64 x.probe_.ver_):=ba1.out.cell 9
 have cb1_9 : w1.cell? ⟨w.heap.size + 1,9,none⟩ = some (.int .i64 x.probe_.ver_):=bb1.out.cell 9
 have ca1_10 : w1.cell? ⟨w.heap.size,10,none⟩ = some (.int .i64 x.probe_.val_):=ba1.out.cell 10
 have cb1_10 : w1.cell? ⟨w.heap.size + 1,10,none⟩ = some (.int .i64 x.probe_.val_):=bb1.out.cell 10
 go_wp2_with fail
 refine (eqProbe_same _ _ _ _ _).mono ?_
 rintro e w2 ⟨rfl,x2⟩
 have z2 : w.heap.size + 2 ≤ w2.heap.size:=by have h:=x2.size;(try simp at h);omega
 have ba2 : Hid (Bx w2 (w.heap.size) 68 (List.toArray ((.int .i64 x.phase_)::(.int .i64 x.tries_)::(.int .i64 x.rv_)::(.int .i64 x.at_)::(.int .i64 x.stamp_)::(.slice A0 n0 c0)::(.bool x.busy_)::(.int .i64 x.probe_.cell_)::(.int .i64 x.probe_.phase_)::(.int .i64 x.probe_.ver_)::(.int .i64 x.probe_.val_)::(.int .i64 x.commit_.who_)::(.int .i64 x.commit_.rv_)::(.int .i64 x.commit_.phase_)::(.int .i64 x.commit_.at_)::(.int .i64 x.commit_.wv_)::(.slice A1 n1 c1)::(.slice A2 n2 c2)::[]))):=Bx.ext (ba1.out) x2
 have bb2 : Hid (Bx w2 (w.heap.size + 1) 68 (List.toArray ((.int .i64 x.phase_)::(.int .i64 x.tries_)::(.int .i64 x.rv_)::(.int .i64 x.at_)::(.int .i64 x.stamp_)::(.slice B0 n0 d0)::(.bool x.busy_)::(.int .i64 x.probe_.cell_)::(.int .i64 x.probe_.phase_)::(.int .i64 x.probe_.ver_)::(.int .i64 x.probe_.val_)::(.int .i64 x.commit_.who_)::(.int .i64 x.commit_.rv_)::(.int .i64 x.commit_.phase_)::(.int .i64 x.commit_.at_)::(.int .i64 x.commit_.wv_)::(.slice B1 p1 d1)::(.slice B2 p2 d2)::[]))):=Bx.ext (bb1.out) x2
 have X2 : Ext w w2:=Ext.tr (X1) x2
 clear x2
 have ca2_11 : w2.cell? ⟨w.heap.size,11,none⟩ = some (.int .i64 x.commit_.who_):=ba2.out.cell 11
 have cb2_11 : w2.cell? ⟨w.heap.size + 1,11,none⟩ = some (.int .i64 x.commit_.who_):=bb2.out.cell 11
 have ca2_12 : w2.cell? ⟨w.heap.size,12,none⟩ = some (.int .i64 x.commit_.rv_):=ba2.out.cell 12
 have cb2_12 : w2.cell? ⟨w.heap.size + 1,12,none⟩ = some (.int .i64 x.commit_.rv_):=bb2.out.cell 12
 have ca2_13 : w2.cell? ⟨w.heap.size,13,none⟩ = some (.int .i64 x.commit_.phase_):=ba2.out.cell 13
 have cb2_13 : w2.cell? ⟨w.heap.size + 1,13,none⟩ = some (.int .i64 x.commit_.phase_):=bb2.out.cell 13
 have ca2_14 : w2.cell? ⟨w.heap.size,14,none⟩ = some (.int .i64 x.commit_.at_):=ba2.out.cell 14
 have cb2_14 : w2.cell? ⟨w.heap.size + 1,14,none⟩ = some (.int .i64 x.commit_.at_):=bb2.out.cell 14
 have ca2_15 : w2.cell? ⟨w.heap.size,15,none⟩ = some (.int .i64 x.commit_.wv_):=ba2.out.cell 15
 have cb2_15 : w2.cell? ⟨w.heap.size + 1,15,none⟩ = some (.int .i64 x.commit_.wv_):=bb2.out.cell 15
 have ca2_16 : w2.cell? ⟨w.heap.size,16,none⟩ = some (.slice A1 n1 c1):=ba2.out.cell 16
 have cb2_16 : w2.cell? ⟨w.heap.size + 1,16,none⟩ = some (.slice B1 p1 d1):=bb2.out.cell 16
 have ca2_17 : w2.cell? ⟨w.heap.size,17,none⟩ = some (.slice A2 n2 c2):=ba2.out.cell 17
 have cb2_17 : w2.cell? ⟨w.heap.size + 1,17,none⟩ = some (.slice B2 p2 d2):=bb2.out.cell 17
 go_wp2_with fail
 refine (eqCommit_same x.commit_ _ _ _ S S' (Commit.R_good.ext H1.out (X2)) (Commit.R_good.ext U1.out (X2))).mono ?_
 rintro e w3 ⟨rfl,x3⟩
 have z3 : w.heap.size + 2 ≤ w3.heap.size:=by have h:=x3.size;(try simp at h);omega
 have ba3 : Hid (Bx w3 (w.heap.size) 68 (List.toArray ((.int .i64 x.phase_)::(.int .i64 x.tries_)::(.int .i64 x.rv_)::(.int .i64 x.at_)::(.int .i64 x.stamp_)::(.slice A0 n0 c0)::(.bool x.busy_)::(.int .i64 x.probe_.cell_)::(.int .i64 x.probe_.phase_)::(.int .i64 x.probe_.ver_)::(.int .i64 x.probe_.val_)::(.int .i64 x.commit_.who_)::(.int .i64 x.commit_.rv_)::(.int .i64 x.commit_.phase_)::(.int .i64 x.commit_.at_)::(.int .i64 x.commit_.wv_)::(.slice A1 n1 c1)::(.slice A2 n2 c2)::[]))):=Bx.ext (ba2.out) x3
 have bb3 : Hid (Bx w3 (w.heap.size + 1) 68 (List.toArray ((.int .i64 x.phase_)::(.int .i64 x.tries_)::(.int .i64 x.rv_)::(.int .i64 x.at_)::(.int .i64 x.stamp_)::(.slice B0 n0 d0)::(.bool x.busy_)::(.int .i64 x.probe_.cell_)::(.int .i64 x.probe_.phase_)::(.int .i64 x.probe_.ver_)::(.int .i64 x.probe_.val_)::(.int .i64 x.commit_.who_)::(.int .i64 x.commit_.rv_)::(.int .i64 x.commit_.phase_)::(.int .i64 x.commit_.at_)::(.int .i64 x.commit_.wv_)::(.slice B1 p1 d1)::(.slice B2 p2 d2)::[]))):=Bx.ext (bb2.out) x3
 have X3 : Ext w w3:=Ext.tr (X2) x3
 clear x3
 go_wp2
 go_ret
 exact ⟨rfl,X3⟩
set_option maxRecDepth 8000 in
set_option maxHeartbeats 8000000 in
theorem eqJobRunS_same (A B : Option Addr) (n c d : Nat) (l : List JobRun) (w : World) (S S' : Nat → Prop) (ha : SlR JobRun.R 18 w S A n l) (hb : SlR JobRun.R 18 w S' B n l) (hm : n ≤ 9223372036854775807) :
  Calls Tryz.prog 38 #[.slice A n c,.slice B n d] w fun e w' => e = .returned (.bool true) ∧ Ext w w':=by
 have HA:=Lib.hid ha
 have HB:=Lib.hid hb
 clear ha hb
 go_enter Tryz.func38,Tryz.ntmps38
 go_wp2
 go_loopw [5] (fun i wr => ∃ (k : Nat),k ≤ n ∧ i = .int .i64 k ∧ Ext w wr) (fun i _ => n - (intOf i).toNat)
 case atStart => exact ⟨0,Nat.zero_le _,rfl,Ext.refl' _⟩
 case round =>
  obtain ⟨k,hk,rfl,hx⟩:=hrel
  have HX:=Lib.hid hx
  clear hx
  by_cases hlt : (k : Int) < (n : Int)
  rotate_left
  ·go_wp2
   go_ret
   exact ⟨rfl,HX.out⟩
  obtain ⟨b,o,rfl⟩:=HA.out.addr (by omega)
  obtain ⟨b2,o2,rfl⟩:=HB.out.addr (by omega)
  obtain ⟨x,row,hxk,-,hrw,hc⟩:=(HA.out.ext JobRun.R_good HX.out).at_ (k:=k) (by omega)
  obtain ⟨y,row2,hyk,-,hrw2,hc2⟩:=(HB.out.ext JobRun.R_good HX.out).at_ (k:=k) (by omega)
  rw [hxk] at hyk
  injection hyk with hyk
  subst hyk
  have rx:=Lib.hid (SlR.range JobRun.R_good hrw hc)
  have ry:=Lib.hid (SlR.range JobRun.R_good hrw2 hc2)
  have RX:=Lib.hid hrw
  have RY:=Lib.hid hrw2
  have l1 : Hid ((Tryz.prog.info? 68).map (·.size) = some row.length):=by show _ = _;rw [JobRun.R_good.len hrw];exact JobRun.size_info
  have l2 : Hid ((Tryz.prog.info? 68).map (·.size) = some row2.length):=by show _ = _;rw [JobRun.R_good.len hrw2];exact JobRun.size_info
  have KX : Hid (∀ wq,Ext wr wq → wq.rangeAt b (o + k * 18) row):=fun wq q j v hv => q.co (rx.out j v hv)
  have KY : Hid (∀ wq,Ext wr wq → wq.rangeAt b2 (o2 + k * 18) row2):=fun wq q j v hv => q.co (ry.out j v hv)
  have hk0 : (0 : Int) ≤ (k : Int):=by omega
  clear hrw hrw2 hc hc2 hxk
  go_wp2
  refine region_class (fun w' => Ext wr w') (by kernel_rfl) (by kernel_rfl) ((Ext.refl' _).dr) ?_
  repeat (first|go_big_quiet_skip|(go_big_quiet_want;first|(refine quiet_load 68 _ rfl b (o + k * 18) rfl row _ KX.out Tryz.underlying68 rfl l1.out ?_;(try simp only [Act.put,List.setIfInBounds_toArray,List.set_cons_zero,List.set_cons_succ]);go_big_quiet_on)|(refine quiet_load 68 _ rfl b2 (o2 + k * 18) rfl row2 _ KY.out Tryz.underlying68 rfl l2.out ?_;(try simp only [Act.put,List.setIfInBounds_toArray,List.set_cons_zero,List.set_cons_succ]);go_big_quiet_on)|(unfold Oper.quiet;apply Exists.intro;refine ⟨fun wq hq => ?_,?_⟩;(go_simp;first|done|rfl|(go_at_call 92;exact (eqJobRun_same x row row2 _ S S' (JobRun.R_good.ext RX.out hq) (JobRun.R_good.ext RY.out hq)).mono fun e w2 h2 => ⟨h2.1,hq.tr h2.2⟩));(try simp only [Act.put,List.setIfInBounds_toArray,List.set_cons_zero,List.set_cons_succ]);go_big_quiet_on)))
  refine wpQuiet_nil ?_
  intro wq hq
  have XE:=Lib.hid hq
  clear hq
  go_wp2
  go_roundw
  case rel => exact ⟨k + 1,by omega,by go_num,HX.out.tr XE.out⟩
  case measure => simp [intOf];omega
/-! ### Duel -/
structure Duel where
 mem_ : Mem
 jobs_ : List JobRun
 hist_ : List Wrote
deriving Inhabited
def Duel.wt (x : Duel) : Nat:=Mem.wt x.mem_ + wtl JobRun.wt x.jobs_ + wtl Wrote.wt x.hist_
def Duel.R (w : World) (S : Nat → Prop) (cs : List Value) (x : Duel) : Prop:=∃ (v0 : List Value) (A1 : Option Addr) (n1 c1 : Nat) (A2 : Option Addr) (n2 c2 : Nat),cs = v0 ++ [.slice A1 n1 c1,.slice A2 n2 c2] ∧ Mem.R w S v0 x.mem_ ∧ (n1 ≤ c1 ∧ n1 ≤ 9223372036854775807 ∧ SlR JobRun.R 18 w S A1 n1 x.jobs_) ∧ (n2 ≤ c2 ∧ n2 ≤ 9223372036854775807 ∧ SlR Wrote.R 3 w S A2 n2 x.hist_)
def Duel.W (w : World) (S : Nat → Prop) (cs : List Value) (x : Duel) : Prop:=∃ (v0 : List Value) (A1 : Option Addr) (n1 c1 : Nat) (A2 : Option Addr) (n2 c2 : Nat) (lab : Nat → Nat),cs = v0 ++ [.slice A1 n1 c1,.slice A2 n2 c2] ∧ Mem.W w (fun g => S g ∧ lab g = 0) v0 x.mem_ ∧ (n1 ≤ c1 ∧ n1 ≤ 9223372036854775807 ∧ SlW JobRun.W 68 18 w (fun g => S g ∧ lab g = 1) A1 n1 c1 x.jobs_) ∧ (n2 ≤ c2 ∧ n2 ≤ 9223372036854775807 ∧ SlW Wrote.W 53 3 w (fun g => S g ∧ lab g = 2) A2 n2 c2 x.hist_)
theorem Duel.R_good : Good Duel.R 4:=⟨fun {_ _ _ _} h => by
  obtain ⟨v0,A1,n1,c1,A2,n2,c2,rfl,h0,⟨kh1,mh1,h1⟩,⟨kh2,mh2,h2⟩⟩:=h
  simp [Mem.R_good.len h0],
 fun {_ _ _ _ _ _} h k hd => by
  obtain ⟨v0,A1,n1,c1,A2,n2,c2,rfl,h0,⟨kh1,mh1,h1⟩,⟨kh2,mh2,h2⟩⟩:=h
  exact ⟨_,_,_,_,_,_,_,rfl,Mem.R_good.chg h0 k hd,⟨kh1,mh1,h1.chg JobRun.R_good k hd⟩,⟨kh2,mh2,h2.chg Wrote.R_good k hd⟩⟩,
 fun {_ _ _ _ _} h hs => by
  obtain ⟨v0,A1,n1,c1,A2,n2,c2,rfl,h0,⟨kh1,mh1,h1⟩,⟨kh2,mh2,h2⟩⟩:=h
  exact ⟨_,_,_,_,_,_,_,rfl,Mem.R_good.mono h0 hs,⟨kh1,mh1,h1.mono JobRun.R_good hs⟩,⟨kh2,mh2,h2.mono Wrote.R_good hs⟩⟩⟩
theorem Duel.W_good : Good Duel.W 4:=⟨fun {_ _ _ _} h => by
  obtain ⟨v0,A1,n1,c1,A2,n2,c2,lab,rfl,h0,⟨kh1,mh1,h1⟩,⟨kh2,mh2,h2⟩⟩:=h
  simp [Mem.W_good.len h0],
 fun {_ _ _ _ _ _} h k hd => by
  obtain ⟨v0,A1,n1,c1,A2,n2,c2,lab,rfl,h0,⟨kh1,mh1,h1⟩,⟨kh2,mh2,h2⟩⟩:=h
  exact ⟨_,_,_,_,_,_,_,lab,rfl,Mem.W_good.chg h0 k fun i hi => hd i hi.1,⟨kh1,mh1,h1.chg JobRun.W_good k fun i hi => hd i hi.1⟩,⟨kh2,mh2,h2.chg Wrote.W_good k fun i hi => hd i hi.1⟩⟩,
 fun {_ _ _ _ _} h hs => by
  obtain ⟨v0,A1,n1,c1,A2,n2,c2,lab,rfl,h0,⟨kh1,mh1,h1⟩,⟨kh2,mh2,h2⟩⟩:=h
  exact ⟨_,_,_,_,_,_,_,lab,rfl,Mem.W_good.mono h0 fun i hi => ⟨hs i hi.1,hi.2⟩,⟨kh1,mh1,h1.mono JobRun.W_good fun i hi => ⟨hs i hi.1,hi.2⟩⟩,⟨kh2,mh2,h2.mono Wrote.W_good fun i hi => ⟨hs i hi.1,hi.2⟩⟩⟩⟩
theorem Duel.W_R {w : World} {S : Nat → Prop} {cs : List Value} {x : Duel} (h : Duel.W w S cs x) : Duel.R w S cs x:=by
 obtain ⟨v0,A1,n1,c1,A2,n2,c2,lab,rfl,h0,⟨kh1,mh1,h1⟩,⟨kh2,mh2,h2⟩⟩:=h
 exact ⟨_,_,_,_,_,_,_,rfl,Mem.R_good.mono (Mem.W_R h0) fun i hi => hi.1,⟨kh1,mh1,(h1.slr JobRun.R_good JobRun.W_R).mono JobRun.R_good fun i hi => hi.1⟩,⟨kh2,mh2,(h2.slr Wrote.R_good Wrote.W_R).mono Wrote.R_good fun i hi => hi.1⟩⟩
theorem Duel.R_cells {w : World} {S : Nat → Prop} {cs : List Value} {x : Duel} (h : Duel.R w S cs x) : ∃ (A0 : Option Addr) (n0 c0 : Nat) (A1 : Option Addr) (n1 c1 : Nat) (A2 : Option Addr) (n2 c2 : Nat),cs = [.int .i64 x.mem_.clock_,.slice A0 n0 c0,.slice A1 n1 c1,.slice A2 n2 c2]:=by
 obtain ⟨v0,A1,n1,c1,A2,n2,c2,rfl,h0,⟨kh1,mh1,h1⟩,⟨kh2,mh2,h2⟩⟩:=h
 obtain ⟨P0_0,p0_0,q0_0,rfl⟩:=Mem.R_cells h0
 exact ⟨P0_0,p0_0,q0_0,A1,n1,c1,A2,n2,c2,rfl⟩
theorem Duel.W_cells {w : World} {S : Nat → Prop} {cs : List Value} {x : Duel} (h : Duel.W w S cs x) : ∃ (A0 : Option Addr) (n0 c0 : Nat) (A1 : Option Addr) (n1 c1 : Nat) (A2 : Option Addr) (n2 c2 : Nat),cs = [.int .i64 x.mem_.clock_,.slice A0 n0 c0,.slice A1 n1 c1,.slice A2 n2 c2]:=by
 obtain ⟨v0,A1,n1,c1,A2,n2,c2,lab,rfl,h0,⟨kh1,mh1,h1⟩,⟨kh2,mh2,h2⟩⟩:=h
 obtain ⟨P0_0,p0_0,q0_0,rfl⟩:=Mem.W_cells h0
 exact ⟨P0_0,p0_0,q0_0,A1,n1,c1,A2,n2,c2,rfl⟩
set_option maxRecDepth 8000 in
set_option maxHeartbeats 8000000 in
theorem eqDuel_same (x : Duel) (cs cs' : List Value) (w : World) (S S' : Nat → Prop) (h : Duel.R w S cs x) (u : Duel.R w S' cs' x) :
  Calls Tryz.prog 10 #[.agg cs.toArray,.agg cs'.toArray] w fun e w' => e = .returned (.bool true) ∧ Ext w w':=by
 obtain ⟨v0,A1,n1,c1,A2,n2,c2,rfl,h0,⟨kh1,mh1,h1⟩,⟨kh2,mh2,h2⟩⟩:=h
 obtain ⟨A0,n0,c0,rfl⟩:=Mem.R_cells h0
 obtain ⟨z0,B1,p1,d1,B2,p2,d2,rfl,u0,⟨ku1,mu1,u1⟩,⟨ku2,mu2,u2⟩⟩:=u
 obtain ⟨B0,p0,d0,rfl⟩:=Mem.R_cells u0
 obtain rfl : n1 = p1:=by have a:=h1.1;have b:=u1.1;omega
 obtain rfl : n2 = p2:=by have a:=h2.1;have b:=u2.1;omega
 have H0:=Lib.hid h0
 have U0:=Lib.hid u0
 have H1:=Lib.hid h1
 have U1:=Lib.hid u1
 have H2:=Lib.hid h2
 have U2:=Lib.hid u2
 clear h0 u0 h1 u1 h2 u2
 simp only [List.cons_append,List.nil_append]
 go_enter Tryz.func10,Tryz.ntmps10
 go_wp2_with fail
 refine (eqMem_same x.mem_ _ _ _ S S' (Mem.R_good.ext H0.out (((Ext.refl' w).al _).al _)) (Mem.R_good.ext U0.out (((Ext.refl' w).al _).al _))).mono ?_
 rintro e w1 ⟨rfl,x1⟩
 have z1 : w.heap.size + 2 ≤ w1.heap.size:=by have h:=x1.size;(try simp at h);omega
 have ba1 : Hid (Bx w1 (w.heap.size) 31 #[.int .i64 x.mem_.clock_,.slice A0 n0 c0,.slice A1 n1 c1,.slice A2 n2 c2]):=Bx.ext ((Bx.new' _ _ _ rfl).al _) x1
 have bb1 : Hid (Bx w1 (w.heap.size + 1) 31 #[.int .i64 x.mem_.clock_,.slice B0 p0 d0,.slice B1 n1 d1,.slice B2 n2 d2]):=Bx.ext (Bx.new' _ _ _ (by simp)) x1
 have X1 : Ext w w1:=Ext.tr (((Ext.refl' w).al _).al _) x1
 clear x1
 have ca1_2 : w1.cell? ⟨w.heap.size,2,none⟩ = some (.slice A1 n1 c1):=ba1.out.cell 2
 have cb1_2 : w1.cell? ⟨w.heap.size + 1,2,none⟩ = some (.slice B1 n1 d1):=bb1.out.cell 2
 go_wp2_with fail
 refine (eqJobRunS_same _ _ _ _ _ x.jobs_ _ S S' (SlR.ext JobRun.R_good H1.out (X1)) (SlR.ext JobRun.R_good U1.out (X1)) mh1).mono ?_
 rintro e w2 ⟨rfl,x2⟩
 have z2 : w.heap.size + 2 ≤ w2.heap.size:=by have h:=x2.size;(try simp at h);omega
 have ba2 : Hid (Bx w2 (w.heap.size) 31 #[.int .i64 x.mem_.clock_,.slice A0 n0 c0,.slice A1 n1 c1,.slice A2 n2 c2]):=Bx.ext (ba1.out) x2
 have bb2 : Hid (Bx w2 (w.heap.size + 1) 31 #[.int .i64 x.mem_.clock_,.slice B0 p0 d0,.slice B1 n1 d1,.slice B2 n2 d2]):=Bx.ext (bb1.out) x2
 have X2 : Ext w w2:=Ext.tr (X1) x2
 clear x2
 have ca2_3 : w2.cell? ⟨w.heap.size,3,none⟩ = some (.slice A2 n2 c2):=ba2.out.cell 3
 have cb2_3 : w2.cell? ⟨w.heap.size + 1,3,none⟩ = some (.slice B2 n2 d2):=bb2.out.cell 3
 go_wp2_with fail
 refine (eqWroteS_same _ _ _ _ _ x.hist_ _ S S' (SlR.ext Wrote.R_good H2.out (X2)) (SlR.ext Wrote.R_good U2.out (X2)) mh2).mono ?_
 rintro e w3 ⟨rfl,x3⟩
 have z3 : w.heap.size + 2 ≤ w3.heap.size:=by have h:=x3.size;(try simp at h);omega
 have ba3 : Hid (Bx w3 (w.heap.size) 31 #[.int .i64 x.mem_.clock_,.slice A0 n0 c0,.slice A1 n1 c1,.slice A2 n2 c2]):=Bx.ext (ba2.out) x3
 have bb3 : Hid (Bx w3 (w.heap.size + 1) 31 #[.int .i64 x.mem_.clock_,.slice B0 p0 d0,.slice B1 n1 d1,.slice B2 n2 d2]):=Bx.ext (bb2.out) x3
 have X3 : Ext w w3:=Ext.tr (X2) x3
 clear x3
 go_wp2
 go_ret
 exact ⟨rfl,X3⟩

end Go.Proofs.YtpmfhfpjiebcjaaGreat
