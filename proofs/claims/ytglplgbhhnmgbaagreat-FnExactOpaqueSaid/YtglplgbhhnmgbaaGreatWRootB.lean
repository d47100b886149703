/- Root: how it reads. No condition. -/
import Derived.Test.YtglplgbhhnmgbaaGreatWFam
namespace Go.Proofs.YtglplgbhhnmgbaaGreat
open Go.RowKit Go.Deep

/-! ### Root -/
structure Root where
  phase_ : Int
  tries_ : Int
  spare_ : Int
  pc_ : Int
  rv_ : Int
  newRv_ : Int
  at_ : Int
  fate_ : Int
  stamp_ : Int
  began_ : Int
  ended_ : Int
  doomed_ : Bool
  regs_ : List Int
  reads_ : List Row
  writes_ : List Row
  marks_ : List Mark
  undos_ : List Undo
  order_ : List Int
  busy_ : Bool
  probe_ : Probe
  commit_ : Commit
  fam_ : Family
deriving Inhabited
def Root.wt (x : Root) : Nat := x.regs_.length + x.reads_.length + x.writes_.length + wtl Mark.wt x.marks_ + x.undos_.length + x.order_.length + Commit.wt x.commit_ + Family.wt x.fam_
def Root.R (w : World) (S : Nat → Prop) (cs : List Value) (x : Root) : Prop := ∃ (A0 : Option Addr) (n0 c0 : Nat) (A1 : Option Addr) (n1 c1 : Nat) (A2 : Option Addr) (n2 c2 : Nat) (A3 : Option Addr) (n3 c3 : Nat) (A4 : Option Addr) (n4 c4 : Nat) (A5 : Option Addr) (n5 c5 : Nat) (v6 : List Value) (v7 : List Value), cs = ((.int .i64 x.phase_) :: (.int .i64 x.tries_) :: (.int .i64 x.spare_) :: (.int .i64 x.pc_) :: (.int .i64 x.rv_) :: (.int .i64 x.newRv_) :: (.int .i64 x.at_) :: (.int .i64 x.fate_) :: (.int .i64 x.stamp_) :: (.int .i64 x.began_) :: (.int .i64 x.ended_) :: (.bool x.doomed_) :: (.slice A0 n0 c0) :: (.slice A1 n1 c1) :: (.slice A2 n2 c2) :: (.slice A3 n3 c3) :: (.slice A4 n4 c4) :: (.slice A5 n5 c5) :: (.bool x.busy_) :: (.int .i64 x.probe_.cell_) :: (.int .i64 x.probe_.phase_) :: (.int .i64 x.probe_.ver_) :: (.int .i64 x.probe_.val_) :: []) ++ v6 ++ v7 ∧ (n0 ≤ c0 ∧ n0 ≤ 9223372036854775807 ∧ Sl w S 1 A0 n0 (ints x.regs_)) ∧ (n1 ≤ c1 ∧ n1 ≤ 9223372036854775807 ∧ Sl w S 2 A1 n1 (x.reads_.flatMap Row.cells)) ∧ (n2 ≤ c2 ∧ n2 ≤ 9223372036854775807 ∧ Sl w S 2 A2 n2 (x.writes_.flatMap Row.cells)) ∧ (n3 ≤ c3 ∧ n3 ≤ 9223372036854775807 ∧ SlR Mark.R 5 w S A3 n3 x.marks_) ∧ (n4 ≤ c4 ∧ n4 ≤ 9223372036854775807 ∧ Sl w S 3 A4 n4 (x.undos_.flatMap Undo.cells)) ∧ (n5 ≤ c5 ∧ n5 ≤ 9223372036854775807 ∧ Sl w S 1 A5 n5 (ints x.order_)) ∧ Commit.R w S v6 x.commit_ ∧ Family.R w S v7 x.fam_
def Root.W (w : World) (S : Nat → Prop) (cs : List Value) (x : Root) : Prop := ∃ (A0 : Option Addr) (n0 c0 : Nat) (A1 : Option Addr) (n1 c1 : Nat) (A2 : Option Addr) (n2 c2 : Nat) (A3 : Option Addr) (n3 c3 : Nat) (A4 : Option Addr) (n4 c4 : Nat) (A5 : Option Addr) (n5 c5 : Nat) (v6 : List Value) (v7 : List Value) (lab : Nat → Nat), cs = ((.int .i64 x.phase_) :: (.int .i64 x.tries_) :: (.int .i64 x.spare_) :: (.int .i64 x.pc_) :: (.int .i64 x.rv_) :: (.int .i64 x.newRv_) :: (.int .i64 x.at_) :: (.int .i64 x.fate_) :: (.int .i64 x.stamp_) :: (.int .i64 x.began_) :: (.int .i64 x.ended_) :: (.bool x.doomed_) :: (.slice A0 n0 c0) :: (.slice A1 n1 c1) :: (.slice A2 n2 c2) :: (.slice A3 n3 c3) :: (.slice A4 n4 c4) :: (.slice A5 n5 c5) :: (.bool x.busy_) :: (.int .i64 x.probe_.cell_) :: (.int .i64 x.probe_.phase_) :: (.int .i64 x.probe_.ver_) :: (.int .i64 x.probe_.val_) :: []) ++ v6 ++ v7 ∧ (n0 ≤ c0 ∧ n0 ≤ 9223372036854775807 ∧ OwS w (fun g => S g ∧ lab g = 0) 3 1 A0 n0 c0 (ints x.regs_)) ∧ (n1 ≤ c1 ∧ n1 ≤ 9223372036854775807 ∧ OwS w (fun g => S g ∧ lab g = 1) 87 2 A1 n1 c1 (x.reads_.flatMap Row.cells)) ∧ (n2 ≤ c2 ∧ n2 ≤ 9223372036854775807 ∧ OwS w (fun g => S g ∧ lab g = 2) 87 2 A2 n2 c2 (x.writes_.flatMap Row.cells)) ∧ (n3 ≤ c3 ∧ n3 ≤ 9223372036854775807 ∧ SlW Mark.W 221 5 w (fun g => S g ∧ lab g = 3) A3 n3 c3 x.marks_) ∧ (n4 ≤ c4 ∧ n4 ≤ 9223372036854775807 ∧ OwS w (fun g => S g ∧ lab g = 4) 224 3 A4 n4 c4 (x.undos_.flatMap Undo.cells)) ∧ (n5 ≤ c5 ∧ n5 ≤ 9223372036854775807 ∧ OwS w (fun g => S g ∧ lab g = 5) 3 1 A5 n5 c5 (ints x.order_)) ∧ Commit.W w (fun g => S g ∧ lab g = 6) v6 x.commit_ ∧ Family.W w (fun g => S g ∧ lab g = 7) v7 x.fam_
theorem Root.R_good : Good Root.R 40 := ⟨fun {_ _ _ _} h => by
    obtain ⟨A0, n0, c0, A1, n1, c1, A2, n2, c2, A3, n3, c3, A4, n4, c4, A5, n5, c5, v6, v7, rfl, ⟨kh0, mh0, h0⟩, ⟨kh1, mh1, h1⟩, ⟨kh2, mh2, h2⟩, ⟨kh3, mh3, h3⟩, ⟨kh4, mh4, h4⟩, ⟨kh5, mh5, h5⟩, h6, h7⟩ := h
    simp [Commit.R_good.len h6, Family.R_good.len h7],
  fun {_ _ _ _ _ _} h k hd => by
    obtain ⟨A0, n0, c0, A1, n1, c1, A2, n2, c2, A3, n3, c3, A4, n4, c4, A5, n5, c5, v6, v7, rfl, ⟨kh0, mh0, h0⟩, ⟨kh1, mh1, h1⟩, ⟨kh2, mh2, h2⟩, ⟨kh3, mh3, h3⟩, ⟨kh4, mh4, h4⟩, ⟨kh5, mh5, h5⟩, h6, h7⟩ := h
    exact ⟨_, _, _, _, _, _, _, _, _, _, _, _, _, _, _, _, _, _, _, _, rfl, ⟨kh0, mh0, h0.chg k hd⟩, ⟨kh1, mh1, h1.chg k hd⟩, ⟨kh2, mh2, h2.chg k hd⟩, ⟨kh3, mh3, h3.chg Mark.R_good k hd⟩, ⟨kh4, mh4, h4.chg k hd⟩, ⟨kh5, mh5, h5.chg k hd⟩, Commit.R_good.chg h6 k hd, Family.R_good.chg h7 k hd⟩,
  fun {_ _ _ _ _} h hs => by
    obtain ⟨A0, n0, c0, A1, n1, c1, A2, n2, c2, A3, n3, c3, A4, n4, c4, A5, n5, c5, v6, v7, rfl, ⟨kh0, mh0, h0⟩, ⟨kh1, mh1, h1⟩, ⟨kh2, mh2, h2⟩, ⟨kh3, mh3, h3⟩, ⟨kh4, mh4, h4⟩, ⟨kh5, mh5, h5⟩, h6, h7⟩ := h
    exact ⟨_, _, _, _, _, _, _, _, _, _, _, _, _, _, _, _, _, _, _, _, rfl, ⟨kh0, mh0, h0.mono hs⟩, ⟨kh1, mh1, h1.mono hs⟩, ⟨kh2, mh2, h2.mono hs⟩, ⟨kh3, mh3, h3.mono Mark.R_good hs⟩, ⟨kh4, mh4, h4.mono hs⟩, ⟨kh5, mh5, h5.mono hs⟩, Commit.R_good.mono h6 hs, Family.R_good.mono h7 hs⟩⟩
theorem Root.W_good : Good Root.W 40 := ⟨fun {_ _ _ _} h => by
    obtain ⟨A0, n0, c0, A1, n1, c1, A2, n2, c2, A3, n3, c3, A4, n4, c4, A5, n5, c5, v6, v7, lab, rfl, ⟨kh0, mh0, h0⟩, ⟨kh1, mh1, h1⟩, ⟨kh2, mh2, h2⟩, ⟨kh3, mh3, h3⟩, ⟨kh4, mh4, h4⟩, ⟨kh5, mh5, h5⟩, h6, h7⟩ := h
    simp [Commit.W_good.len h6, Family.W_good.len h7],
  fun {_ _ _ _ _ _} h k hd => by
    obtain ⟨A0, n0, c0, A1, n1, c1, A2, n2, c2, A3, n3, c3, A4, n4, c4, A5, n5, c5, v6, v7, lab, rfl, ⟨kh0, mh0, h0⟩, ⟨kh1, mh1, h1⟩, ⟨kh2, mh2, h2⟩, ⟨kh3, mh3, h3⟩, ⟨kh4, mh4, h4⟩, ⟨kh5, mh5, h5⟩, h6, h7⟩ := h
    exact ⟨_, _, _, _, _, _, _, _, _, _, _, _, _, _, _, _, _, _, _, _, lab, rfl, ⟨kh0, mh0, h0.chg k fun i hi => hd i hi.1⟩, ⟨kh1, mh1, h1.chg k fun i hi => hd i hi.1⟩, ⟨kh2, mh2, h2.chg k fun i hi => hd i hi.1⟩, ⟨kh3, mh3, h3.chg Mark.W_good k fun i hi => hd i hi.1⟩, ⟨kh4, mh4, h4.chg k fun i hi => hd i hi.1⟩, ⟨kh5, mh5, h5.chg k fun i hi => hd i hi.1⟩, Commit.W_good.chg h6 k fun i hi => hd i hi.1, Family.W_good.chg h7 k fun i hi => hd i hi.1⟩,
  fun {_ _ _ _ _} h hs => by
    obtain ⟨A0, n0, c0, A1, n1, c1, A2, n2, c2, A3, n3, c3, A4, n4, c4, A5, n5, c5, v6, v7, lab, rfl, ⟨kh0, mh0, h0⟩, ⟨kh1, mh1, h1⟩, ⟨kh2, mh2, h2⟩, ⟨kh3, mh3, h3⟩, ⟨kh4, mh4, h4⟩, ⟨kh5, mh5, h5⟩, h6, h7⟩ := h
    exact ⟨_, _, _, _, _, _, _, _, _, _, _, _, _, _, _, _, _, _, _, _, lab, rfl, ⟨kh0, mh0, h0.mono fun i _ hi => ⟨hs i hi.1, hi.2⟩⟩, ⟨kh1, mh1, h1.mono fun i _ hi => ⟨hs i hi.1, hi.2⟩⟩, ⟨kh2, mh2, h2.mono fun i _ hi => ⟨hs i hi.1, hi.2⟩⟩, ⟨kh3, mh3, h3.mono Mark.W_good fun i hi => ⟨hs i hi.1, hi.2⟩⟩, ⟨kh4, mh4, h4.mono fun i _ hi => ⟨hs i hi.1, hi.2⟩⟩, ⟨kh5, mh5, h5.mono fun i _ hi => ⟨hs i hi.1, hi.2⟩⟩, Commit.W_good.mono h6 fun i hi => ⟨hs i hi.1, hi.2⟩, Family.W_good.mono h7 fun i hi => ⟨hs i hi.1, hi.2⟩⟩⟩
theorem Root.W_R {w : World} {S : Nat → Prop} {cs : List Value} {x : Root} (h : Root.W w S cs x) : Root.R w S cs x := by
  obtain ⟨A0, n0, c0, A1, n1, c1, A2, n2, c2, A3, n3, c3, A4, n4, c4, A5, n5, c5, v6, v7, lab, rfl, ⟨kh0, mh0, h0⟩, ⟨kh1, mh1, h1⟩, ⟨kh2, mh2, h2⟩, ⟨kh3, mh3, h3⟩, ⟨kh4, mh4, h4⟩, ⟨kh5, mh5, h5⟩, h6, h7⟩ := h
  exact ⟨_, _, _, _, _, _, _, _, _, _, _, _, _, _, _, _, _, _, _, _, rfl, ⟨kh0, mh0, h0.sl.mono fun i hi => hi.1⟩, ⟨kh1, mh1, h1.sl.mono fun i hi => hi.1⟩, ⟨kh2, mh2, h2.sl.mono fun i hi => hi.1⟩, ⟨kh3, mh3, (h3.slr Mark.R_good Mark.W_R).mono Mark.R_good fun i hi => hi.1⟩, ⟨kh4, mh4, h4.sl.mono fun i hi => hi.1⟩, ⟨kh5, mh5, h5.sl.mono fun i hi => hi.1⟩, Commit.R_good.mono (Commit.W_R h6) fun i hi => hi.1, Family.R_good.mono (Family.W_R h7) fun i hi => hi.1⟩
theorem Root.R_cells {w : World} {S : Nat → Prop} {cs : List Value} {x : Root} (h : Root.R w S cs x) : ∃ (A0 : Option Addr) (n0 c0 : Nat) (A1 : Option Addr) (n1 c1 : Nat) (A2 : Option Addr) (n2 c2 : Nat) (A3 : Option Addr) (n3 c3 : Nat) (A4 : Option Addr) (n4 c4 : Nat) (A5 : Option Addr) (n5 c5 : Nat) (A6 : Option Addr) (n6 c6 : Nat) (A7 : Option Addr) (n7 c7 : Nat) (A8 : Option Addr) (n8 c8 : Nat) (A9 : Option Addr) (n9 c9 : Nat) (A10 : Option Addr) (n10 c10 : Nat) (A11 : Option Addr) (n11 c11 : Nat) (A12 : Option Addr) (n12 c12 : Nat) (A13 : Option Addr) (n13 c13 : Nat), cs = ((.int .i64 x.phase_) :: (.int .i64 x.tries_) :: (.int .i64 x.spare_) :: (.int .i64 x.pc_) :: (.int .i64 x.rv_) :: (.int .i64 x.newRv_) :: (.int .i64 x.at_) :: (.int .i64 x.fate_) :: (.int .i64 x.stamp_) :: (.int .i64 x.began_) :: (.int .i64 x.ended_) :: (.bool x.doomed_) :: (.slice A0 n0 c0) :: (.slice A1 n1 c1) :: (.slice A2 n2 c2) :: (.slice A3 n3 c3) :: (.slice A4 n4 c4) :: (.slice A5 n5 c5) :: (.bool x.busy_) :: (.int .i64 x.probe_.cell_) :: (.int .i64 x.probe_.phase_) :: (.int .i64 x.probe_.ver_) :: (.int .i64 x.probe_.val_) :: (.int .i64 x.commit_.who_) :: (.int .i64 x.commit_.rv_) :: (.int .i64 x.commit_.phase_) :: (.int .i64 x.commit_.at_) :: (.int .i64 x.commit_.wv_) :: (.slice A6 n6 c6) :: (.slice A7 n7 c7) :: (.int .i64 x.fam_.rv_) :: (.int .i64 x.fam_.clock_) :: (.int .i64 x.fam_.owner_) :: (.bool x.fam_.lost_) :: (.slice A8 n8 c8) :: (.slice A9 n9 c9) :: (.slice A10 n10 c10) :: (.slice A11 n11 c11) :: (.slice A12 n12 c12) :: (.slice A13 n13 c13) :: []) := by
  obtain ⟨A0, n0, c0, A1, n1, c1, A2, n2, c2, A3, n3, c3, A4, n4, c4, A5, n5, c5, v6, v7, rfl, ⟨kh0, mh0, h0⟩, ⟨kh1, mh1, h1⟩, ⟨kh2, mh2, h2⟩, ⟨kh3, mh3, h3⟩, ⟨kh4, mh4, h4⟩, ⟨kh5, mh5, h5⟩, h6, h7⟩ := h
  obtain ⟨P6_0, p6_0, q6_0, P6_1, p6_1, q6_1, rfl⟩ := Commit.R_cells h6
  obtain ⟨P7_0, p7_0, q7_0, P7_1, p7_1, q7_1, P7_2, p7_2, q7_2, P7_3, p7_3, q7_3, P7_4, p7_4, q7_4, P7_5, p7_5, q7_5, rfl⟩ := Family.R_cells h7
  exact ⟨A0, n0, c0, A1, n1, c1, A2, n2, c2, A3, n3, c3, A4, n4, c4, A5, n5, c5, P6_0, p6_0, q6_0, P6_1, p6_1, q6_1, P7_0, p7_0, q7_0, P7_1, p7_1, q7_1, P7_2, p7_2, q7_2, P7_3, p7_3, q7_3, P7_4, p7_4, q7_4, P7_5, p7_5, q7_5, rfl⟩
theorem Root.W_cells {w : World} {S : Nat → Prop} {cs : List Value} {x : Root} (h : Root.W w S cs x) : ∃ (A0 : Option Addr) (n0 c0 : Nat) (A1 : Option Addr) (n1 c1 : Nat) (A2 : Option Addr) (n2 c2 : Nat) (A3 : Option Addr) (n3 c3 : Nat) (A4 : Option Addr) (n4 c4 : Nat) (A5 : Option Addr) (n5 c5 : Nat) (A6 : Option Addr) (n6 c6 : Nat) (A7 : Option Addr) (n7 c7 : Nat) (A8 : Option Addr) (n8 c8 : Nat) (A9 : Option Addr) (n9 c9 : Nat) (A10 : Option Addr) (n10 c10 : Nat) (A11 : Option Addr) (n11 c11 : Nat) (A12 : Option Addr) (n12 c12 : Nat) (A13 : Option Addr) (n13 c13 : Nat), cs = ((.int .i64 x.phase_) :: (.int .i64 x.tries_) :: (.int .i64 x.spare_) :: (.int .i64 x.pc_) :: (.int .i64 x.rv_) :: (.int .i64 x.newRv_) :: (.int .i64 x.at_) :: (.int .i64 x.fate_) :: (.int .i64 x.stamp_) :: (.int .i64 x.began_) :: (.int .i64 x.ended_) :: (.bool x.doomed_) :: (.slice A0 n0 c0) :: (.slice A1 n1 c1) :: (.slice A2 n2 c2) :: (.slice A3 n3 c3) :: (.slice A4 n4 c4) :: (.slice A5 n5 c5) :: (.bool x.busy_) :: (.int .i64 x.probe_.cell_) :: (.int .i64 x.probe_.phase_) :: (.int .i64 x.probe_.ver_) :: (.int .i64 x.probe_.val_) :: (.int .i64 x.commit_.who_) :: (.int .i64 x.commit_.rv_) :: (.int .i64 x.commit_.phase_) :: (.int .i64 x.commit_.at_) :: (.int .i64 x.commit_.wv_) :: (.slice A6 n6 c6) :: (.slice A7 n7 c7) :: (.int .i64 x.fam_.rv_) :: (.int .i64 x.fam_.clock_) :: (.int .i64 x.fam_.owner_) :: (.bool x.fam_.lost_) :: (.slice A8 n8 c8) :: (.slice A9 n9 c9) :: (.slice A10 n10 c10) :: (.slice A11 n11 c11) :: (.slice A12 n12 c12) :: (.slice A13 n13 c13) :: []) := by
  obtain ⟨A0, n0, c0, A1, n1, c1, A2, n2, c2, A3, n3, c3, A4, n4, c4, A5, n5, c5, v6, v7, lab, rfl, ⟨kh0, mh0, h0⟩, ⟨kh1, mh1, h1⟩, ⟨kh2, mh2, h2⟩, ⟨kh3, mh3, h3⟩, ⟨kh4, mh4, h4⟩, ⟨kh5, mh5, h5⟩, h6, h7⟩ := h
  obtain ⟨P6_0, p6_0, q6_0, P6_1, p6_1, q6_1, rfl⟩ := Commit.W_cells h6
  obtain ⟨P7_0, p7_0, q7_0, P7_1, p7_1, q7_1, P7_2, p7_2, q7_2, P7_3, p7_3, q7_3, P7_4, p7_4, q7_4, P7_5, p7_5, q7_5, rfl⟩ := Family.W_cells h7
  exact ⟨A0, n0, c0, A1, n1, c1, A2, n2, c2, A3, n3, c3, A4, n4, c4, A5, n5, c5, P6_0, p6_0, q6_0, P6_1, p6_1, q6_1, P7_0, p7_0, q7_0, P7_1, p7_1, q7_1, P7_2, p7_2, q7_2, P7_3, p7_3, q7_3, P7_4, p7_4, q7_4, P7_5, p7_5, q7_5, rfl⟩

end Go.Proofs.YtglplgbhhnmgbaaGreat
