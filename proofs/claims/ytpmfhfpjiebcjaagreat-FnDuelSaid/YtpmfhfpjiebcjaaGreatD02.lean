/- The laws' helpers on Row, Word, Probe and Job. No condition but sizes. Mem, Commit, Wrote, JobRun, Duel: how they read, compared. No condition. RowsOk of program and reference. No condition but the length. HistOk of the reference. No condition but the lengths. -/
import Derived.Test.YtpmfhfpjiebcjaaGreatD00
import Derived.Deep.RegionWith
namespace Go.Proofs.YtpmfhfpjiebcjaaGreat
open Go.RowKit Go.Deep
set_option linter.unnecessarySimpa false

/-! ### Row -/
structure Row where
 cell_ : Int
 val_ : Int
deriving Inhabited,DecidableEq
def Row.cells (s : Row) : List Value:=[.int .i64 s.cell_,.int .i64 s.val_]
theorem Row.cells_length (s : Row) : s.cells.length = 2:=rfl
/-- Its integers are integers of Go's. -/
def Row.good (s : Row) : Prop:=(Lit.int .i64 s.cell_).wf = true ∧ (Lit.int .i64 s.val_).wf = true
theorem Tryz.infoRow : (Tryz.prog.info? 97).map (fun i => (i.zero,i.size,i.bytes)) = some (some (.agg #[.int .i64 0,.int .i64 0]),2,16):=by kernel_rfl

structure Word where
 val_ : Int
 ver_ : Int
 owner_ : Int
deriving Inhabited,DecidableEq
def Word.cells (s : Word) : List Value:=[.int .i64 s.val_,.int .i64 s.ver_,.int .i64 s.owner_]
theorem Word.cells_length (s : Word) : s.cells.length = 3:=rfl
/-- Its integers are integers of Go's. -/
def Word.good (s : Word) : Prop:=(Lit.int .i64 s.val_).wf = true ∧ (Lit.int .i64 s.ver_).wf = true ∧ (Lit.int .i64 s.owner_).wf = true

structure Probe where
 cell_ : Int
 phase_ : Int
 ver_ : Int
 val_ : Int
deriving Inhabited,DecidableEq
def Probe.cells (s : Probe) : List Value:=[.int .i64 s.cell_,.int .i64 s.phase_,.int .i64 s.ver_,.int .i64 s.val_]
theorem Probe.cells_length (s : Probe) : s.cells.length = 4:=rfl
/-- Its integers are integers of Go's. -/
def Probe.good (s : Probe) : Prop:=(Lit.int .i64 s.cell_).wf = true ∧ (Lit.int .i64 s.phase_).wf = true ∧ (Lit.int .i64 s.ver_).wf = true ∧ (Lit.int .i64 s.val_).wf = true

structure Job where
 reads_ : List Int
 puts_ : List Row
deriving Inhabited
def Job.wt (x : Job) : Nat:=x.reads_.length + x.puts_.length
def Job.R (w : World) (S : Nat → Prop) (cs : List Value) (x : Job) : Prop:=∃ (A0 : Option Addr) (n0 c0 : Nat) (A1 : Option Addr) (n1 c1 : Nat),cs = [.slice A0 n0 c0,.slice A1 n1 c1] ∧ (n0 ≤ c0 ∧ n0 ≤ 9223372036854775807 ∧ Sl w S 1 A0 n0 (ints x.reads_)) ∧ (n1 ≤ c1 ∧ n1 ≤ 9223372036854775807 ∧ Sl w S 2 A1 n1 (x.puts_.flatMap Row.cells))
def Job.W (w : World) (S : Nat → Prop) (cs : List Value) (x : Job) : Prop:=∃ (A0 : Option Addr) (n0 c0 : Nat) (A1 : Option Addr) (n1 c1 : Nat) (lab : Nat → Nat),cs = [.slice A0 n0 c0,.slice A1 n1 c1] ∧ (n0 ≤ c0 ∧ n0 ≤ 9223372036854775807 ∧ OwS w (fun g => S g ∧ lab g = 0) 3 1 A0 n0 c0 (ints x.reads_)) ∧ (n1 ≤ c1 ∧ n1 ≤ 9223372036854775807 ∧ OwS w (fun g => S g ∧ lab g = 1) 97 2 A1 n1 c1 (x.puts_.flatMap Row.cells))
theorem Job.R_good : Good Job.R 2:=⟨fun {_ _ _ _} h => by
  obtain ⟨A0,n0,c0,A1,n1,c1,rfl,⟨kh0,mh0,h0⟩,⟨kh1,mh1,h1⟩⟩:=h
  rfl,
 fun {_ _ _ _ _ _} h k hd => by
  obtain ⟨A0,n0,c0,A1,n1,c1,rfl,⟨kh0,mh0,h0⟩,⟨kh1,mh1,h1⟩⟩:=h
  exact ⟨_,_,_,_,_,_,rfl,⟨kh0,mh0,h0.chg k hd⟩,⟨kh1,mh1,h1.chg k hd⟩⟩,
 fun {_ _ _ _ _} h hs => by
  obtain ⟨A0,n0,c0,A1,n1,c1,rfl,⟨kh0,mh0,h0⟩,⟨kh1,mh1,h1⟩⟩:=h
  exact ⟨_,_,_,_,_,_,rfl,⟨kh0,mh0,h0.mono hs⟩,⟨kh1,mh1,h1.mono hs⟩⟩⟩
theorem Job.R_cells {w : World} {S : Nat → Prop} {cs : List Value} {x : Job} (h : Job.R w S cs x) : ∃ (A0 : Option Addr) (n0 c0 : Nat) (A1 : Option Addr) (n1 c1 : Nat),cs = [.slice A0 n0 c0,.slice A1 n1 c1]:=by
 obtain ⟨A0,n0,c0,A1,n1,c1,rfl,⟨kh0,mh0,h0⟩,⟨kh1,mh1,h1⟩⟩:=h
 exact ⟨A0,n0,c0,A1,n1,c1,rfl⟩
theorem Job.size_info : (Tryz.prog.info? 72).map (·.size) = some 2:=by kernel_rfl
end Go.Proofs.YtpmfhfpjiebcjaaGreat
namespace Go.Proofs.YtpmfhfpjiebcjaaGreat
open Go.RowKit Go.Deep
set_option linter.unnecessarySimpa false

/-! ### Mem -/
structure Mem where
 clock_ : Int
 cells_ : List Word
deriving Inhabited
def Mem.wt (x : Mem) : Nat:=x.cells_.length
def Mem.R (w : World) (S : Nat → Prop) (cs : List Value) (x : Mem) : Prop:=∃ (A0 : Option Addr) (n0 c0 : Nat),cs = [.int .i64 x.clock_,.slice A0 n0 c0] ∧ (n0 ≤ c0 ∧ n0 ≤ 9223372036854775807 ∧ Sl w S 3 A0 n0 (x.cells_.flatMap Word.cells))
def Mem.W (w : World) (S : Nat → Prop) (cs : List Value) (x : Mem) : Prop:=∃ (A0 : Option Addr) (n0 c0 : Nat) (lab : Nat → Nat),cs = [.int .i64 x.clock_,.slice A0 n0 c0] ∧ (n0 ≤ c0 ∧ n0 ≤ 9223372036854775807 ∧ OwS w (fun g => S g ∧ lab g = 0) 102 3 A0 n0 c0 (x.cells_.flatMap Word.cells))
theorem Mem.R_good : Good Mem.R 2:=⟨fun {_ _ _ _} h => by
  obtain ⟨A0,n0,c0,rfl,⟨kh0,mh0,h0⟩⟩:=h
  rfl,
 fun {_ _ _ _ _ _} h k hd => by
  obtain ⟨A0,n0,c0,rfl,⟨kh0,mh0,h0⟩⟩:=h
  exact ⟨_,_,_,rfl,⟨kh0,mh0,h0.chg k hd⟩⟩,
 fun {_ _ _ _ _} h hs => by
  obtain ⟨A0,n0,c0,rfl,⟨kh0,mh0,h0⟩⟩:=h
  exact ⟨_,_,_,rfl,⟨kh0,mh0,h0.mono hs⟩⟩⟩
theorem Mem.R_cells {w : World} {S : Nat → Prop} {cs : List Value} {x : Mem} (h : Mem.R w S cs x) : ∃ (A0 : Option Addr) (n0 c0 : Nat),cs = [.int .i64 x.clock_,.slice A0 n0 c0]:=by
 obtain ⟨A0,n0,c0,rfl,⟨kh0,mh0,h0⟩⟩:=h
 exact ⟨A0,n0,c0,rfl⟩
structure Commit where
 who_ : Int
 rv_ : Int
 phase_ : Int
 at_ : Int
 wv_ : Int
 puts_ : List Row
 reads_ : List Int
deriving Inhabited
def Commit.wt (x : Commit) : Nat:=x.puts_.length + x.reads_.length
def Commit.R (w : World) (S : Nat → Prop) (cs : List Value) (x : Commit) : Prop:=∃ (A0 : Option Addr) (n0 c0 : Nat) (A1 : Option Addr) (n1 c1 : Nat),cs = [.int .i64 x.who_,.int .i64 x.rv_,.int .i64 x.phase_,.int .i64 x.at_,.int .i64 x.wv_,.slice A0 n0 c0,.slice A1 n1 c1] ∧ (n0 ≤ c0 ∧ n0 ≤ 9223372036854775807 ∧ Sl w S 2 A0 n0 (x.puts_.flatMap Row.cells)) ∧ (n1 ≤ c1 ∧ n1 ≤ 9223372036854775807 ∧ Sl w S 1 A1 n1 (ints x.reads_))
def Commit.W (w : World) (S : Nat → Prop) (cs : List Value) (x : Commit) : Prop:=∃ (A0 : Option Addr) (n0 c0 : Nat) (A1 : Option Addr) (n1 c1 : Nat) (lab : Nat → Nat),cs = [.int .i64 x.who_,.int .i64 x.rv_,.int .i64 x.phase_,.int .i64 x.at_,.int .i64 x.wv_,.slice A0 n0 c0,.slice A1 n1 c1] ∧ (n0 ≤ c0 ∧ n0 ≤ 9223372036854775807 ∧ OwS w (fun g => S g ∧ lab g = 0) 97 2 A0 n0 c0 (x.puts_.flatMap Row.cells)) ∧ (n1 ≤ c1 ∧ n1 ≤ 9223372036854775807 ∧ OwS w (fun g => S g ∧ lab g = 1) 3 1 A1 n1 c1 (ints x.reads_))
theorem Commit.R_good : Good Commit.R 7:=⟨fun {_ _ _ _} h => by
  obtain ⟨A0,n0,c0,A1,n1,c1,rfl,⟨kh0,mh0,h0⟩,⟨kh1,mh1,h1⟩⟩:=h
  rfl,
 fun {_ _ _ _ _ _} h k hd => by
  obtain ⟨A0,n0,c0,A1,n1,c1,rfl,⟨kh0,mh0,h0⟩,⟨kh1,mh1,h1⟩⟩:=h
  exact ⟨_,_,_,_,_,_,rfl,⟨kh0,mh0,h0.chg k hd⟩,⟨kh1,mh1,h1.chg k hd⟩⟩,
 fun {_ _ _ _ _} h hs => by
  obtain ⟨A0,n0,c0,A1,n1,c1,rfl,⟨kh0,mh0,h0⟩,⟨kh1,mh1,h1⟩⟩:=h
  exact ⟨_,_,_,_,_,_,rfl,⟨kh0,mh0,h0.mono hs⟩,⟨kh1,mh1,h1.mono hs⟩⟩⟩
theorem Commit.R_cells {w : World} {S : Nat → Prop} {cs : List Value} {x : Commit} (h : Commit.R w S cs x) : ∃ (A0 : Option Addr) (n0 c0 : Nat) (A1 : Option Addr) (n1 c1 : Nat),cs = [.int .i64 x.who_,.int .i64 x.rv_,.int .i64 x.phase_,.int .i64 x.at_,.int .i64 x.wv_,.slice A0 n0 c0,.slice A1 n1 c1]:=by
 obtain ⟨A0,n0,c0,A1,n1,c1,rfl,⟨kh0,mh0,h0⟩,⟨kh1,mh1,h1⟩⟩:=h
 exact ⟨A0,n0,c0,A1,n1,c1,rfl⟩
structure Wrote where
 stamp_ : Int
 who_ : Int
 puts_ : List Row
deriving Inhabited
def Wrote.wt (x : Wrote) : Nat:=x.puts_.length
def Wrote.R (w : World) (S : Nat → Prop) (cs : List Value) (x : Wrote) : Prop:=∃ (A0 : Option Addr) (n0 c0 : Nat),cs = [.int .i64 x.stamp_,.int .i64 x.who_,.slice A0 n0 c0] ∧ (n0 ≤ c0 ∧ n0 ≤ 9223372036854775807 ∧ Sl w S 2 A0 n0 (x.puts_.flatMap Row.cells))
def Wrote.W (w : World) (S : Nat → Prop) (cs : List Value) (x : Wrote) : Prop:=∃ (A0 : Option Addr) (n0 c0 : Nat) (lab : Nat → Nat),cs = [.int .i64 x.stamp_,.int .i64 x.who_,.slice A0 n0 c0] ∧ (n0 ≤ c0 ∧ n0 ≤ 9223372036854775807 ∧ OwS w (fun g => S g ∧ lab g = 0) 97 2 A0 n0 c0 (x.puts_.flatMap Row.cells))
theorem Wrote.R_good : Good Wrote.R 3:=⟨fun {_ _ _ _} h => by
  obtain ⟨A0,n0,c0,rfl,⟨kh0,mh0,h0⟩⟩:=h
  rfl,
 fun {_ _ _ _ _ _} h k hd => by
  obtain ⟨A0,n0,c0,rfl,⟨kh0,mh0,h0⟩⟩:=h
  exact ⟨_,_,_,rfl,⟨kh0,mh0,h0.chg k hd⟩⟩,
 fun {_ _ _ _ _} h hs => by
  obtain ⟨A0,n0,c0,rfl,⟨kh0,mh0,h0⟩⟩:=h
  exact ⟨_,_,_,rfl,⟨kh0,mh0,h0.mono hs⟩⟩⟩
theorem Wrote.R_cells {w : World} {S : Nat → Prop} {cs : List Value} {x : Wrote} (h : Wrote.R w S cs x) : ∃ (A0 : Option Addr) (n0 c0 : Nat),cs = [.int .i64 x.stamp_,.int .i64 x.who_,.slice A0 n0 c0]:=by
 obtain ⟨A0,n0,c0,rfl,⟨kh0,mh0,h0⟩⟩:=h
 exact ⟨A0,n0,c0,rfl⟩
theorem Wrote.size_info : (Tryz.prog.info? 53).map (·.size) = some 3:=by kernel_rfl
structure JobRun where
 phase_ : Int
 tries_ : Int
 rv_ : Int
 at_ : Int
 stamp_ : Int
 seen_ : List Row
 busy_ : Bool
 probe_ : Probe
 commit_ : Commit
deriving Inhabited
def JobRun.wt (x : JobRun) : Nat:=x.seen_.length + Commit.wt x.commit_
def JobRun.R (w : World) (S : Nat → Prop) (cs : List Value) (x : JobRun) : Prop:=∃ (A0 : Option Addr) (n0 c0 : Nat) (v1 : List Value),cs = [.int .i64 x.phase_,.int .i64 x.tries_,.int .i64 x.rv_,.int .i64 x.at_,.int .i64 x.stamp_,.slice A0 n0 c0,.bool x.busy_,.int .i64 x.probe_.cell_,.int .i64 x.probe_.phase_,.int .i64 x.probe_.ver_,.int .i64 x.probe_.val_] ++ v1 ∧ (n0 ≤ c0 ∧ n0 ≤ 9223372036854775807 ∧ Sl w S 2 A0 n0 (x.seen_.flatMap Row.cells)) ∧ Commit.R w S v1 x.commit_
def JobRun.W (w : World) (S : Nat → Prop) (cs : List Value) (x : JobRun) : Prop:=∃ (A0 : Option Addr) (n0 c0 : Nat) (v1 : List Value) (lab : Nat → Nat),cs = [.int .i64 x.phase_,.int .i64 x.tries_,.int .i64 x.rv_,.int .i64 x.at_,.int .i64 x.stamp_,.slice A0 n0 c0,.bool x.busy_,.int .i64 x.probe_.cell_,.int .i64 x.probe_.phase_,.int .i64 x.probe_.ver_,.int .i64 x.probe_.val_] ++ v1 ∧ (n0 ≤ c0 ∧ n0 ≤ 9223372036854775807 ∧ OwS w (fun g => S g ∧ lab g = 0) 97 2 A0 n0 c0 (x.seen_.flatMap Row.cells)) ∧ Commit.W w (fun g => S g ∧ lab g = 1) v1 x.commit_
theorem JobRun.R_good : Good JobRun.R 18:=⟨fun {_ _ _ _} h => by
  obtain ⟨A0,n0,c0,v1,rfl,⟨kh0,mh0,h0⟩,h1⟩:=h
  simp [Commit.R_good.len h1],
 fun {_ _ _ _ _ _} h k hd => by
  obtain ⟨A0,n0,c0,v1,rfl,⟨kh0,mh0,h0⟩,h1⟩:=h
  exact ⟨_,_,_,_,rfl,⟨kh0,mh0,h0.chg k hd⟩,Commit.R_good.chg h1 k hd⟩,
 fun {_ _ _ _ _} h hs => by
  obtain ⟨A0,n0,c0,v1,rfl,⟨kh0,mh0,h0⟩,h1⟩:=h
  exact ⟨_,_,_,_,rfl,⟨kh0,mh0,h0.mono hs⟩,Commit.R_good.mono h1 hs⟩⟩
theorem JobRun.R_cells {w : World} {S : Nat → Prop} {cs : List Value} {x : JobRun} (h : JobRun.R w S cs x) : ∃ (A0 : Option Addr) (n0 c0 : Nat) (A1 : Option Addr) (n1 c1 : Nat) (A2 : Option Addr) (n2 c2 : Nat),cs = ((.int .i64 x.phase_)::(.int .i64 x.tries_)::(.int .i64 x.rv_)::(.int .i64 x.at_)::(.int .i64 x.stamp_)::(.slice A0 n0 c0)::(.bool x.busy_)::(.int .i64 x.probe_.cell_)::(.int .i64 x.probe_.phase_)::(.int .i64 x.probe_.ver_)::(.int .i64 x.probe_.val_)::(.int .i64 x.commit_.who_)::(.int .i64 x.commit_.rv_)::(.int .i64 x.commit_.phase_)::(.int .i64 x.commit_.at_)::(.int .i64 x.commit_.wv_)::(.slice A1 n1 c1)::(.slice A2 n2 c2)::[]):=by
 obtain ⟨A0,n0,c0,v1,rfl,⟨kh0,mh0,h0⟩,h1⟩:=h
 obtain ⟨P1_0,p1_0,q1_0,P1_1,p1_1,q1_1,rfl⟩:=Commit.R_cells h1
 exact ⟨A0,n0,c0,P1_0,p1_0,q1_0,P1_1,p1_1,q1_1,rfl⟩
theorem JobRun.size_info : (Tryz.prog.info? 68).map (·.size) = some 18:=by kernel_rfl
structure Duel where
 mem_ : Mem
 jobs_ : List JobRun
 hist_ : List Wrote
deriving Inhabited
def Duel.wt (x : Duel) : Nat:=Mem.wt x.mem_ + wtl JobRun.wt x.jobs_ + wtl Wrote.wt x.hist_
def Duel.R (w : World) (S : Nat → Prop) (cs : List Value) (x : Duel) : Prop:=∃ (v0 : List Value) (A1 : Option Addr) (n1 c1 : Nat) (A2 : Option Addr) (n2 c2 : Nat),cs = v0 ++ [.slice A1 n1 c1,.slice A2 n2 c2] ∧ Mem.R w S v0 x.mem_ ∧ (n1 ≤ c1 ∧ n1 ≤ 9223372036854775807 ∧ SlR JobRun.R 18 w S A1 n1 x.jobs_) ∧ (n2 ≤ c2 ∧ n2 ≤ 9223372036854775807 ∧ SlR Wrote.R 3 w S A2 n2 x.hist_)
def Duel.W (w : World) (S : Nat → Prop) (cs : List Value) (x : Duel) : Prop:=∃ (v0 : List Value) (A1 : Option Addr) (n1 c1 : Nat) (A2 : Option Addr) (n2 c2 : Nat) (lab : Nat → Nat),cs = v0 ++ [.slice A1 n1 c1,.slice A2 n2 c2] ∧ Mem.W w (fun g => S g ∧ lab g = 0) v0 x.mem_ ∧ (n1 ≤ c1 ∧ n1 ≤ 9223372036854775807 ∧ SlW JobRun.W 68 18 w (fun g => S g ∧ lab g = 1) A1 n1 c1 x.jobs_) ∧ (n2 ≤ c2 ∧ n2 ≤ 9223372036854775807 ∧ SlW Wrote.W 53 3 w (fun g => S g ∧ lab g = 2) A2 n2 c2 x.hist_)
theorem Duel.R_good : Good Duel.R 4:=⟨fun {_ _ _ _} h => by
  obtain ⟨v0,A1,n1,c1,A2,n2,c2,rfl,h0,⟨kh1,mh1,h1⟩,⟨kh2,mh2,h2⟩⟩:=h
  simp [Mem.R_good.len h0],
 fun {_ _ _ _ _ _} h k hd => by
  obtain ⟨v0,A1,n1,c1,A2,n2,c2,rfl,h0,⟨kh1,mh1,h1⟩,⟨kh2,mh2,h2⟩⟩:=h
  exact ⟨_,_,_,_,_,_,_,rfl,Mem.R_good.chg h0 k hd,⟨kh1,mh1,h1.chg JobRun.R_good k hd⟩,⟨kh2,mh2,h2.chg Wrote.R_good k hd⟩⟩,
 fun {_ _ _ _ _} h hs => by
  obtain ⟨v0,A1,n1,c1,A2,n2,c2,rfl,h0,⟨kh1,mh1,h1⟩,⟨kh2,mh2,h2⟩⟩:=h
  exact ⟨_,_,_,_,_,_,_,rfl,Mem.R_good.mono h0 hs,⟨kh1,mh1,h1.mono JobRun.R_good hs⟩,⟨kh2,mh2,h2.mono Wrote.R_good hs⟩⟩⟩
theorem Duel.R_cells {w : World} {S : Nat → Prop} {cs : List Value} {x : Duel} (h : Duel.R w S cs x) : ∃ (A0 : Option Addr) (n0 c0 : Nat) (A1 : Option Addr) (n1 c1 : Nat) (A2 : Option Addr) (n2 c2 : Nat),cs = [.int .i64 x.mem_.clock_,.slice A0 n0 c0,.slice A1 n1 c1,.slice A2 n2 c2]:=by
 obtain ⟨v0,A1,n1,c1,A2,n2,c2,rfl,h0,⟨kh1,mh1,h1⟩,⟨kh2,mh2,h2⟩⟩:=h
 obtain ⟨P0_0,p0_0,q0_0,rfl⟩:=Mem.R_cells h0
 exact ⟨P0_0,p0_0,q0_0,A1,n1,c1,A2,n2,c2,rfl⟩
end Go.Proofs.YtpmfhfpjiebcjaaGreat
namespace Go.Proofs.YtpmfhfpjiebcjaaGreat
open Go.RowKit Go.Deep
set_option linter.unnecessarySimpa false

def Row.ok (_ : Nat) (a : Row) : Prop:=(0 ≤ a.cell_ ∧ a.cell_ ≤ 7) ∧ (0 ≤ a.val_ ∧ a.val_ ≤ 65535)
noncomputable def rowsOk (l : List Row) : Bool:=dec (l.length ≤ 300 ∧ AllTo Row.ok l l.length)


set_option maxHeartbeats 4000000 in
theorem spec_RowsOk (A : Option Addr) (n c : Nat) (l : List Row) (w : World) (S : Nat → Prop) (hs : Sl w S 2 A n (l.flatMap Row.cells)) (hm : n ≤ 1048576) :
  Calls Tryz.prog 56 #[.slice A n c] w fun e w' => e = .returned (.bool (rowsOk l)) ∧ Ext w w':=by
 have H:=Lib.hid (hs.flen Row.cells_length (by omega))
 by_cases h60 : n ≤ 300
 rotate_left
 ·go_enter Tryz.func56,Tryz.ntmps56
  go_wp2
  go_ret
  exact ⟨by rw [rowsOk,dec_no fun h => h60 (by rw [← H.out];exact h.1)];rfl,Ext.refl' _⟩
 go_enter Tryz.func56,Tryz.ntmps56
 go_wp2
 go_loopw [3] (fun i wr => ∃ k : Nat,k ≤ n ∧ i = .int .i64 k ∧ AllTo Row.ok l k ∧ Ext w wr) (fun i _ => n - (intOf i).toNat)
 case atStart => exact ⟨0,Nat.zero_le _,rfl,AllTo.zero _ _,Ext.refl' _⟩
 case round =>
  obtain ⟨k,hk,rfl,hup,hxx⟩:=hrel
  by_cases hlt : k < n
  ·obtain ⟨b,o,s,rfl,hb,hx,hc⟩:=(hs.ext hxx).flat_at Row.cells_length (by omega) hlt
   obtain ⟨f0,f1⟩:=s
   have c0:=hc 0 (by omega)
   have c1:=hc 1 (by omega)
   simp only [Row.cells,List.getElem?_cons_zero,List.getElem?_cons_succ,Nat.add_zero] at c0 c1
   have HX:=Lib.hid hx
   have HU:=Lib.hid hup
   have HE:=Lib.hid hxx
   clear hx hup hc hxx
   by_cases h0 : 0 ≤ f0 ∧ f0 ≤ 7
   rotate_left
   ·have d0 : decide (0 ≤ f0 ∧ f0 ≤ 7) = false:=by simpa using h0
    go_wp2_with (first|(go_at_call 57;refine (l3Cell_any _ _).mono ?_;rintro e w' ⟨rfl,rfl⟩)|(go_at_call 103;refine (l3Val_any _ _).mono ?_;rintro e w' ⟨rfl,rfl⟩))
    go_ret
    exact ⟨by rw [rowsOk,dec_no fun h => AllTo.not HX.out (by rw [H.out];exact hlt) (fun q => h0 q.1) h.2];rfl,by first|exact HE.out|exact HE.out.al _⟩
   have d0 : decide (0 ≤ f0 ∧ f0 ≤ 7) = true:=by simpa using h0
   by_cases h1 : 0 ≤ f1 ∧ f1 ≤ 65535
   rotate_left
   ·have d1 : decide (0 ≤ f1 ∧ f1 ≤ 65535) = false:=by simpa using h1
    go_wp2_with (first|(go_at_call 57;refine (l3Cell_any _ _).mono ?_;rintro e w' ⟨rfl,rfl⟩)|(go_at_call 103;refine (l3Val_any _ _).mono ?_;rintro e w' ⟨rfl,rfl⟩))
    go_ret
    exact ⟨by rw [rowsOk,dec_no fun h => AllTo.not HX.out (by rw [H.out];exact hlt) (fun q => h1 q.2) h.2];rfl,by first|exact HE.out|exact HE.out.al _⟩
   have d1 : decide (0 ≤ f1 ∧ f1 ≤ 65535) = true:=by simpa using h1
   go_wp2_with (first|(go_at_call 57;refine (l3Cell_any _ _).mono ?_;rintro e w' ⟨rfl,rfl⟩)|(go_at_call 103;refine (l3Val_any _ _).mono ?_;rintro e w' ⟨rfl,rfl⟩))
   go_roundw
   case rel => exact ⟨k + 1,by omega,by go_num,HU.out.succ HX.out ⟨h0,h1⟩,by first|exact HE.out|exact HE.out.al _⟩
   case measure => simp [intOf];omega
  ·go_wp2
   go_ret
   have e : k = l.length:=by rw [H.out];omega
   exact ⟨by rw [rowsOk,dec_yes ⟨by rw [H.out];exact h60,by rw [← e];exact hup⟩];rfl,hxx⟩

set_option maxHeartbeats 4000000 in
theorem impl_RowsOk (A : Option Addr) (n c : Nat) (l : List Row) (w : World) (S : Nat → Prop) (hs : Sl w S 2 A n (l.flatMap Row.cells)) (hm : n ≤ 1048576) :
  Calls Tryz.prog 67 #[.slice A n c] w fun e w' => e = .returned (.bool (rowsOk l)) ∧ Ext w w':=by
 have H:=Lib.hid (hs.flen Row.cells_length (by omega))
 go_enter Tryz.func67,Tryz.ntmps67
 go_wp2
 go_loopw [7] (fun i wr => ∃ k : Nat,k ≤ n ∧ i = .int .i64 k ∧ AllTo Row.ok l k ∧ Ext w wr) (fun i _ => n - (intOf i).toNat)
 case atStart => exact ⟨0,Nat.zero_le _,rfl,AllTo.zero _ _,Ext.refl' _⟩
 case round =>
  obtain ⟨k,hk,rfl,hup,hxx⟩:=hrel
  by_cases hlt : k < n
  ·obtain ⟨b,o,s,rfl,hb,hx,hc⟩:=(hs.ext hxx).flat_at Row.cells_length (by omega) hlt
   obtain ⟨f0,f1⟩:=s
   have c0:=hc 0 (by omega)
   have c1:=hc 1 (by omega)
   simp only [Row.cells,List.getElem?_cons_zero,List.getElem?_cons_succ,Nat.add_zero] at c0 c1
   have HX:=Lib.hid hx
   have HU:=Lib.hid hup
   have HE:=Lib.hid hxx
   clear hx hup hc hxx
   by_cases h0 : 0 ≤ f0 ∧ f0 ≤ 7
   rotate_left
   ·have d0 : decide (0 ≤ f0 ∧ f0 ≤ 7) = false:=by simpa using h0
    go_wp2_with (first|(go_at_call 84;refine (isCell_any _ _).mono ?_;rintro e w' ⟨rfl,rfl⟩)|(go_at_call 104;refine (isValue_any _ _).mono ?_;rintro e w' ⟨rfl,rfl⟩))
    go_ret
    exact ⟨by rw [rowsOk,dec_no fun h => AllTo.not HX.out (by rw [H.out];exact hlt) (fun q => h0 q.1) h.2];rfl,by first|exact HE.out|exact HE.out.al _⟩
   have d0 : decide (0 ≤ f0 ∧ f0 ≤ 7) = true:=by simpa using h0
   by_cases h1 : 0 ≤ f1 ∧ f1 ≤ 65535
   rotate_left
   ·have d1 : decide (0 ≤ f1 ∧ f1 ≤ 65535) = false:=by simpa using h1
    go_wp2_with (first|(go_at_call 84;refine (isCell_any _ _).mono ?_;rintro e w' ⟨rfl,rfl⟩)|(go_at_call 104;refine (isValue_any _ _).mono ?_;rintro e w' ⟨rfl,rfl⟩))
    go_ret
    exact ⟨by rw [rowsOk,dec_no fun h => AllTo.not HX.out (by rw [H.out];exact hlt) (fun q => h1 q.2) h.2];rfl,by first|exact HE.out|exact HE.out.al _⟩
   have d1 : decide (0 ≤ f1 ∧ f1 ≤ 65535) = true:=by simpa using h1
   go_wp2_with (first|(go_at_call 84;refine (isCell_any _ _).mono ?_;rintro e w' ⟨rfl,rfl⟩)|(go_at_call 104;refine (isValue_any _ _).mono ?_;rintro e w' ⟨rfl,rfl⟩))
   go_roundw
   case rel => exact ⟨k + 1,by omega,by go_num,HU.out.succ HX.out ⟨h0,h1⟩,by first|exact HE.out|exact HE.out.al _⟩
   case measure => simp [intOf];omega
  ·have e : k = n:=by omega
   have HU : AllTo Row.ok l l.length:=by rw [H.out,← e];exact hup
   have HE:=Lib.hid hxx
   clear e hup hxx
   by_cases h60 : n ≤ 300
   ·have h60' : (n : Int) ≤ 300:=by omega
    go_wp2
    go_ret
    exact ⟨by rw [rowsOk,dec_yes ⟨by rw [H.out];exact h60,HU⟩];simp,HE.out⟩
   ·have h60' : ¬ (n : Int) ≤ 300:=by omega
    go_wp2
    go_ret
    exact ⟨by rw [rowsOk,dec_no fun h => h60 (by rw [← H.out];exact h.1)];simp,HE.out⟩

end Go.Proofs.YtpmfhfpjiebcjaaGreat
namespace Go.Proofs.YtpmfhfpjiebcjaaGreat
open Go.RowKit Go.Deep
set_option linter.unnecessarySimpa false
set_option linter.unusedSimpArgs false
set_option linter.unusedVariables false

/-- An entry of a history: in range,its stamp not there before. -/
def hOne (l : List Wrote) (i : Nat) (x : Wrote) : Prop:=(1 ≤ x.stamp_ ∧ x.stamp_ ≤ 1000000) ∧ (1 ≤ x.who_ ∧ x.who_ ≤ 99) ∧ rowsOk x.puts_ = true ∧ ∀ (k : Nat) (y : Wrote),k < i → l[k]? = some y → y.stamp_ ≠ x.stamp_
noncomputable def histOk (l : List Wrote) : Bool:=dec (l.length ≤ 200 ∧ AllTo (hOne l) l l.length)
/-- An element of a slice with depth: its cells. -/
theorem hist_at {w : World} {S : Nat → Prop} {b o n k : Nat} {l : List Wrote} (h : SlR Wrote.R 3 w S (some ⟨b,o,none⟩) n l) (hk : k < n) : ∃ (x : Wrote) (A0 : Option Addr) (n0 c0 : Nat),l[k]? = some x ∧ b < w.heap.size ∧ w.cell? ⟨b,o + k * 3,none⟩ = some (.int .i64 x.stamp_) ∧ w.cell? ⟨b,o + k * 3 + 1,none⟩ = some (.int .i64 x.who_) ∧ w.cell? ⟨b,o + k * 3 + 2,none⟩ = some (.slice A0 n0 c0) ∧ n0 ≤ c0 ∧ Sl w S 2 A0 n0 (x.puts_.flatMap Row.cells) ∧ x.puts_.length = n0:=by
 obtain ⟨x,row,hx,hb,⟨A0,n0,c0,rfl,h1,h2,h3⟩,hc⟩:=h.at_ hk
 exact ⟨x,A0,n0,c0,hx,hb,hc 0 (by omega),hc 1 (by omega),hc 2 (by omega),h1,h3,h3.flen Row.cells_length (by omega)⟩
set_option maxHeartbeats 8000000 in
theorem spec_HistOk (A : Option Addr) (n c : Nat) (l : List Wrote) (w : World) (S : Nat → Prop) (hs : SlR Wrote.R 3 w S A n l) (hm : n ≤ 1048576) (hp : ∀ x ∈ l,x.puts_.length ≤ 1048576) :
  Calls Tryz.prog 59 #[.slice A n c] w fun e w' => e = .returned (.bool (histOk l)) ∧ Ext w w':=by
 have H : Hid (l.length = n):=hs.1
 by_cases h200 : n ≤ 200
 rotate_left
 ·go_enter Tryz.func59,Tryz.ntmps59
  go_wp2
  go_ret
  exact ⟨by rw [histOk,dec_no fun h => h200 (by rw [← H.out];exact h.1)];rfl,Ext.refl' _⟩
 have HS:=Lib.hid hs
 have HP:=Lib.hid hp
 clear hs hp
 go_enter Tryz.func59,Tryz.ntmps59
 go_wp2
 go_loopw [3] (fun i wr => ∃ k : Nat,k ≤ n ∧ i = .int .i64 k ∧ Hid (AllTo (hOne l) l k) ∧ Hid (Ext w wr)) (fun i _ => n - (intOf i).toNat)
 case atStart => exact ⟨0,Nat.zero_le _,rfl,AllTo.zero _ _,Ext.refl' _⟩
 case round =>
  obtain ⟨k,hk,rfl,HU,HE⟩:=hrel
  by_cases hlt : k < n
  rotate_left
  ·go_wp2
   go_ret
   have e : k = l.length:=by rw [H.out];omega
   exact ⟨by rw [histOk,dec_yes ⟨by rw [H.out];exact h200,by rw [← e];exact HU.out⟩];rfl,HE.out⟩
  obtain ⟨b,o,rfl⟩:=HS.out.addr (by omega)
  obtain ⟨x,A0,n0,c0,hx,hb,q0,q1,q2,hnc,hsl,hl0⟩:=hist_at (HS.out.ext Wrote.R_good HE.out) hlt
  have HX:=Lib.hid hx
  have HSL:=Lib.hid hsl
  have HN0 : Hid (n0 ≤ 1048576):=by show _ ≤ _;rw [← hl0];exact HP.out x (List.mem_of_getElem? hx)
  obtain ⟨x0,x1,x2⟩:=x
  have HK : Hid (k < n):=hlt
  simp only at q0 q1 HSL
  clear hx hsl hl0 hnc
  have NO : ∀ {p : Prop},(hOne l k ⟨x0,x1,x2⟩ → p) → ¬ p → histOk l = false:=fun f g => by
   rw [histOk,dec_no fun h => AllTo.not HX.out (by rw [H.out];exact HK.out) (fun q => g (f q)) h.2]
  by_cases h0 : 1 ≤ x0 ∧ x0 ≤ 1000000
  rotate_left
  ·have d0 : decide (1 ≤ x0 ∧ x0 ≤ 1000000) = false:=by simpa using h0
   have HN:=Lib.hid (NO (fun q => q.1) h0)
   clear h0 NO
   go_wp2_with ((go_at_call 30;refine (l1In_any _ _ _ _).mono ?_;rintro e w' ⟨rfl,rfl⟩);rw [d0])
   go_ret
   exact ⟨by rw [HN.out];rfl,HE.out⟩
  have d0 : decide (1 ≤ x0 ∧ x0 ≤ 1000000) = true:=by simpa using h0
  have H0:=Lib.hid h0
  clear h0
  by_cases h1 : 1 ≤ x1 ∧ x1 ≤ 99
  rotate_left
  ·have d1 : decide (1 ≤ x1 ∧ x1 ≤ 99) = false:=by simpa using h1
   have HN:=Lib.hid (NO (fun q => q.2.1) h1)
   clear h1 NO
   go_wp2_with ((go_at_call 30;refine (l1In_any _ _ _ _).mono ?_;rintro e w' ⟨rfl,rfl⟩);first|rw [d0]|rw [d1])
   go_ret
   exact ⟨by rw [HN.out];rfl,HE.out⟩
  have d1 : decide (1 ≤ x1 ∧ x1 ≤ 99) = true:=by simpa using h1
  have H1:=Lib.hid h1
  clear h1
  cases h2 : rowsOk x2
  ·have HN:=Lib.hid (NO (fun q => q.2.2.1) (by simp only;rw [h2];simp))
   clear NO
   go_wp2_with (first|((go_at_call 30;refine (l1In_any _ _ _ _).mono ?_;rintro e w' ⟨rfl,rfl⟩);first|rw [d0]|rw [d1])|(go_at_call 56;refine (spec_RowsOk _ _ _ x2 _ _ HSL.out HN0.out).mono ?_;rintro e w' ⟨rfl,x9⟩;rw [h2];replace HE:=Lib.hid (HE.out.tr x9);clear x9))
   go_ret
   exact ⟨by rw [HN.out];rfl,HE.out⟩
  have H2:=Lib.hid h2
  go_wp2_with (first|((go_at_call 30;refine (l1In_any _ _ _ _).mono ?_;rintro e w' ⟨rfl,rfl⟩);first|rw [d0]|rw [d1])|(go_at_call 56;refine (spec_RowsOk _ _ _ x2 _ _ HSL.out HN0.out).mono ?_;rintro e w' ⟨rfl,x9⟩;rw [h2];replace HE:=Lib.hid (HE.out.tr x9);clear x9))
  clear h2 d0 d1 q0 q1 q2 hb
  go_loopw [4] (fun i wr => ∃ j : Nat,j ≤ k ∧ i = .int .i64 j ∧ Hid (∀ (q : Nat) (y : Wrote),q < j → l[q]? = some y → y.stamp_ ≠ x0) ∧ Hid (Ext w wr)) (fun i _ => k - (intOf i).toNat)
  case atStart => exact ⟨0,Nat.zero_le _,rfl,fun _ _ h => absurd h (Nat.not_lt_zero _),HE⟩
  case round =>
   clear HE
   obtain ⟨j,hj,rfl,HD,HE⟩:=hrel
   by_cases hjk : j < k
   rotate_left
   ·obtain rfl : k = j:=by omega
    go_wp2
    go_roundw
    case rel => exact ⟨k + 1,HK.out,by go_num,Lib.hid (HU.out.succ HX.out ⟨H0.out,H1.out,H2.out,HD.out⟩),HE⟩
    case measure => have:=HK.out;simp [intOf];omega
   have HJ : Hid (j < k):=hjk
   obtain ⟨y,A1,n1,c1,hy,hb,p0,_,_,_,_,_⟩:=hist_at (HS.out.ext Wrote.R_good HE.out) (show j < n by omega)
   obtain ⟨x',_,_,_,hx',_,r0,_,_,_,_,_⟩:=hist_at (HS.out.ext Wrote.R_good HE.out) hlt
   rw [HX.out] at hx'
   injection hx' with hx'
   subst hx'
   simp only at r0
   have HY:=Lib.hid hy
   clear hy
   by_cases hs0 : y.stamp_ = x0
   ·have HN:=Lib.hid (NO (fun q => q.2.2.2 j y HJ.out HY.out) (fun h => h hs0))
    have bs : (y.stamp_ == x0) = true:=by simpa using hs0
    clear hs0 NO
    go_wp2
    go_quiet (fail)
    go_wp2
    go_ret
    exact ⟨by rw [HN.out];rfl,HE.out.drN nq⟩
   have bs : (y.stamp_ == x0) = false:=by simpa using hs0
   have HS0:=Lib.hid hs0
   clear hs0
   go_wp2
   go_quiet (fail)
   go_wp2
   go_roundw
   case rel =>
    refine ⟨j + 1,HJ.out,by go_num,Lib.hid fun q z hq hz => ?_,Lib.hid (HE.out.drN nq)⟩
    by_cases e : q = j
    ·subst e;rw [HY.out] at hz;injection hz with hz;subst hz;exact HS0.out
    ·exact HD.out q z (by omega) hz
   case measure => have:=HJ.out;simp [intOf];omega
end Go.Proofs.YtpmfhfpjiebcjaaGreat
