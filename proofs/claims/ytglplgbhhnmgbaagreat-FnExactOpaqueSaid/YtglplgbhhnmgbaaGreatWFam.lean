/- The laws' helpers on Family. No condition but sizes. -/
import Derived.Test.YtglplgbhhnmgbaaGreatWKid
namespace Go.Proofs.YtglplgbhhnmgbaaGreat
open Go.RowKit Go.Deep

/-! ### Family -/
structure Family where
  rv_ : Int
  clock_ : Int
  owner_ : Int
  lost_ : Bool
  regs_ : List Int
  start_ : List Row
  buf_ : List Entry
  order_ : List Int
  reads_ : List Row
  kids_ : List KidRun
deriving Inhabited
def Family.wt (x : Family) : Nat := x.regs_.length + x.start_.length + x.buf_.length + x.order_.length + x.reads_.length + wtl KidRun.wt x.kids_
def Family.R (w : World) (S : Nat → Prop) (cs : List Value) (x : Family) : Prop := ∃ (A0 : Option Addr) (n0 c0 : Nat) (A1 : Option Addr) (n1 c1 : Nat) (A2 : Option Addr) (n2 c2 : Nat) (A3 : Option Addr) (n3 c3 : Nat) (A4 : Option Addr) (n4 c4 : Nat) (A5 : Option Addr) (n5 c5 : Nat), cs = [.int .i64 x.rv_, .int .i64 x.clock_, .int .i64 x.owner_, .bool x.lost_, .slice A0 n0 c0, .slice A1 n1 c1, .slice A2 n2 c2, .slice A3 n3 c3, .slice A4 n4 c4, .slice A5 n5 c5] ∧ (n0 ≤ c0 ∧ n0 ≤ 9223372036854775807 ∧ Sl w S 1 A0 n0 (ints x.regs_)) ∧ (n1 ≤ c1 ∧ n1 ≤ 9223372036854775807 ∧ Sl w S 2 A1 n1 (x.start_.flatMap Row.cells)) ∧ (n2 ≤ c2 ∧ n2 ≤ 9223372036854775807 ∧ Sl w S 3 A2 n2 (x.buf_.flatMap Entry.cells)) ∧ (n3 ≤ c3 ∧ n3 ≤ 9223372036854775807 ∧ Sl w S 1 A3 n3 (ints x.order_)) ∧ (n4 ≤ c4 ∧ n4 ≤ 9223372036854775807 ∧ Sl w S 2 A4 n4 (x.reads_.flatMap Row.cells)) ∧ (n5 ≤ c5 ∧ n5 ≤ 9223372036854775807 ∧ SlR KidRun.R 15 w S A5 n5 x.kids_)
def Family.W (w : World) (S : Nat → Prop) (cs : List Value) (x : Family) : Prop := ∃ (A0 : Option Addr) (n0 c0 : Nat) (A1 : Option Addr) (n1 c1 : Nat) (A2 : Option Addr) (n2 c2 : Nat) (A3 : Option Addr) (n3 c3 : Nat) (A4 : Option Addr) (n4 c4 : Nat) (A5 : Option Addr) (n5 c5 : Nat) (lab : Nat → Nat), cs = [.int .i64 x.rv_, .int .i64 x.clock_, .int .i64 x.owner_, .bool x.lost_, .slice A0 n0 c0, .slice A1 n1 c1, .slice A2 n2 c2, .slice A3 n3 c3, .slice A4 n4 c4, .slice A5 n5 c5] ∧ (n0 ≤ c0 ∧ n0 ≤ 9223372036854775807 ∧ OwS w (fun g => S g ∧ lab g = 0) 3 1 A0 n0 c0 (ints x.regs_)) ∧ (n1 ≤ c1 ∧ n1 ≤ 9223372036854775807 ∧ OwS w (fun g => S g ∧ lab g = 1) 87 2 A1 n1 c1 (x.start_.flatMap Row.cells)) ∧ (n2 ≤ c2 ∧ n2 ≤ 9223372036854775807 ∧ OwS w (fun g => S g ∧ lab g = 2) 140 3 A2 n2 c2 (x.buf_.flatMap Entry.cells)) ∧ (n3 ≤ c3 ∧ n3 ≤ 9223372036854775807 ∧ OwS w (fun g => S g ∧ lab g = 3) 3 1 A3 n3 c3 (ints x.order_)) ∧ (n4 ≤ c4 ∧ n4 ≤ 9223372036854775807 ∧ OwS w (fun g => S g ∧ lab g = 4) 87 2 A4 n4 c4 (x.reads_.flatMap Row.cells)) ∧ (n5 ≤ c5 ∧ n5 ≤ 9223372036854775807 ∧ SlW KidRun.W 138 15 w (fun g => S g ∧ lab g = 5) A5 n5 c5 x.kids_)
theorem Family.R_good : Good Family.R 10 := ⟨fun {_ _ _ _} h => by
    obtain ⟨A0, n0, c0, A1, n1, c1, A2, n2, c2, A3, n3, c3, A4, n4, c4, A5, n5, c5, rfl, ⟨kh0, mh0, h0⟩, ⟨kh1, mh1, h1⟩, ⟨kh2, mh2, h2⟩, ⟨kh3, mh3, h3⟩, ⟨kh4, mh4, h4⟩, ⟨kh5, mh5, h5⟩⟩ := h
    rfl,
  fun {_ _ _ _ _ _} h k hd => by
    obtain ⟨A0, n0, c0, A1, n1, c1, A2, n2, c2, A3, n3, c3, A4, n4, c4, A5, n5, c5, rfl, ⟨kh0, mh0, h0⟩, ⟨kh1, mh1, h1⟩, ⟨kh2, mh2, h2⟩, ⟨kh3, mh3, h3⟩, ⟨kh4, mh4, h4⟩, ⟨kh5, mh5, h5⟩⟩ := h
    exact ⟨_, _, _, _, _, _, _, _, _, _, _, _, _, _, _, _, _, _, rfl, ⟨kh0, mh0, h0.chg k hd⟩, ⟨kh1, mh1, h1.chg k hd⟩, ⟨kh2, mh2, h2.chg k hd⟩, ⟨kh3, mh3, h3.chg k hd⟩, ⟨kh4, mh4, h4.chg k hd⟩, ⟨kh5, mh5, h5.chg KidRun.R_good k hd⟩⟩,
  fun {_ _ _ _ _} h hs => by
    obtain ⟨A0, n0, c0, A1, n1, c1, A2, n2, c2, A3, n3, c3, A4, n4, c4, A5, n5, c5, rfl, ⟨kh0, mh0, h0⟩, ⟨kh1, mh1, h1⟩, ⟨kh2, mh2, h2⟩, ⟨kh3, mh3, h3⟩, ⟨kh4, mh4, h4⟩, ⟨kh5, mh5, h5⟩⟩ := h
    exact ⟨_, _, _, _, _, _, _, _, _, _, _, _, _, _, _, _, _, _, rfl, ⟨kh0, mh0, h0.mono hs⟩, ⟨kh1, mh1, h1.mono hs⟩, ⟨kh2, mh2, h2.mono hs⟩, ⟨kh3, mh3, h3.mono hs⟩, ⟨kh4, mh4, h4.mono hs⟩, ⟨kh5, mh5, h5.mono KidRun.R_good hs⟩⟩⟩
theorem Family.W_good : Good Family.W 10 := ⟨fun {_ _ _ _} h => by
    obtain ⟨A0, n0, c0, A1, n1, c1, A2, n2, c2, A3, n3, c3, A4, n4, c4, A5, n5, c5, lab, rfl, ⟨kh0, mh0, h0⟩, ⟨kh1, mh1, h1⟩, ⟨kh2, mh2, h2⟩, ⟨kh3, mh3, h3⟩, ⟨kh4, mh4, h4⟩, ⟨kh5, mh5, h5⟩⟩ := h
    rfl,
  fun {_ _ _ _ _ _} h k hd => by
    obtain ⟨A0, n0, c0, A1, n1, c1, A2, n2, c2, A3, n3, c3, A4, n4, c4, A5, n5, c5, lab, rfl, ⟨kh0, mh0, h0⟩, ⟨kh1, mh1, h1⟩, ⟨kh2, mh2, h2⟩, ⟨kh3, mh3, h3⟩, ⟨kh4, mh4, h4⟩, ⟨kh5, mh5, h5⟩⟩ := h
    exact ⟨_, _, _, _, _, _, _, _, _, _, _, _, _, _, _, _, _, _, lab, rfl, ⟨kh0, mh0, h0.chg k fun i hi => hd i hi.1⟩, ⟨kh1, mh1, h1.chg k fun i hi => hd i hi.1⟩, ⟨kh2, mh2, h2.chg k fun i hi => hd i hi.1⟩, ⟨kh3, mh3, h3.chg k fun i hi => hd i hi.1⟩, ⟨kh4, mh4, h4.chg k fun i hi => hd i hi.1⟩, ⟨kh5, mh5, h5.chg KidRun.W_good k fun i hi => hd i hi.1⟩⟩,
  fun {_ _ _ _ _} h hs => by
    obtain ⟨A0, n0, c0, A1, n1, c1, A2, n2, c2, A3, n3, c3, A4, n4, c4, A5, n5, c5, lab, rfl, ⟨kh0, mh0, h0⟩, ⟨kh1, mh1, h1⟩, ⟨kh2, mh2, h2⟩, ⟨kh3, mh3, h3⟩, ⟨kh4, mh4, h4⟩, ⟨kh5, mh5, h5⟩⟩ := h
    exact ⟨_, _, _, _, _, _, _, _, _, _, _, _, _, _, _, _, _, _, lab, rfl, ⟨kh0, mh0, h0.mono fun i _ hi => ⟨hs i hi.1, hi.2⟩⟩, ⟨kh1, mh1, h1.mono fun i _ hi => ⟨hs i hi.1, hi.2⟩⟩, ⟨kh2, mh2, h2.mono fun i _ hi => ⟨hs i hi.1, hi.2⟩⟩, ⟨kh3, mh3, h3.mono fun i _ hi => ⟨hs i hi.1, hi.2⟩⟩, ⟨kh4, mh4, h4.mono fun i _ hi => ⟨hs i hi.1, hi.2⟩⟩, ⟨kh5, mh5, h5.mono KidRun.W_good fun i hi => ⟨hs i hi.1, hi.2⟩⟩⟩⟩
theorem Family.W_R {w : World} {S : Nat → Prop} {cs : List Value} {x : Family} (h : Family.W w S cs x) : Family.R w S cs x := by
  obtain ⟨A0, n0, c0, A1, n1, c1, A2, n2, c2, A3, n3, c3, A4, n4, c4, A5, n5, c5, lab, rfl, ⟨kh0, mh0, h0⟩, ⟨kh1, mh1, h1⟩, ⟨kh2, mh2, h2⟩, ⟨kh3, mh3, h3⟩, ⟨kh4, mh4, h4⟩, ⟨kh5, mh5, h5⟩⟩ := h
  exact ⟨_, _, _, _, _, _, _, _, _, _, _, _, _, _, _, _, _, _, rfl, ⟨kh0, mh0, h0.sl.mono fun i hi => hi.1⟩, ⟨kh1, mh1, h1.sl.mono fun i hi => hi.1⟩, ⟨kh2, mh2, h2.sl.mono fun i hi => hi.1⟩, ⟨kh3, mh3, h3.sl.mono fun i hi => hi.1⟩, ⟨kh4, mh4, h4.sl.mono fun i hi => hi.1⟩, ⟨kh5, mh5, (h5.slr KidRun.R_good KidRun.W_R).mono KidRun.R_good fun i hi => hi.1⟩⟩
theorem Family.R_cells {w : World} {S : Nat → Prop} {cs : List Value} {x : Family} (h : Family.R w S cs x) : ∃ (A0 : Option Addr) (n0 c0 : Nat) (A1 : Option Addr) (n1 c1 : Nat) (A2 : Option Addr) (n2 c2 : Nat) (A3 : Option Addr) (n3 c3 : Nat) (A4 : Option Addr) (n4 c4 : Nat) (A5 : Option Addr) (n5 c5 : Nat), cs = [.int .i64 x.rv_, .int .i64 x.clock_, .int .i64 x.owner_, .bool x.lost_, .slice A0 n0 c0, .slice A1 n1 c1, .slice A2 n2 c2, .slice A3 n3 c3, .slice A4 n4 c4, .slice A5 n5 c5] := by
  obtain ⟨A0, n0, c0, A1, n1, c1, A2, n2, c2, A3, n3, c3, A4, n4, c4, A5, n5, c5, rfl, ⟨kh0, mh0, h0⟩, ⟨kh1, mh1, h1⟩, ⟨kh2, mh2, h2⟩, ⟨kh3, mh3, h3⟩, ⟨kh4, mh4, h4⟩, ⟨kh5, mh5, h5⟩⟩ := h
  exact ⟨A0, n0, c0, A1, n1, c1, A2, n2, c2, A3, n3, c3, A4, n4, c4, A5, n5, c5, rfl⟩
theorem Family.W_cells {w : World} {S : Nat → Prop} {cs : List Value} {x : Family} (h : Family.W w S cs x) : ∃ (A0 : Option Addr) (n0 c0 : Nat) (A1 : Option Addr) (n1 c1 : Nat) (A2 : Option Addr) (n2 c2 : Nat) (A3 : Option Addr) (n3 c3 : Nat) (A4 : Option Addr) (n4 c4 : Nat) (A5 : Option Addr) (n5 c5 : Nat), cs = [.int .i64 x.rv_, .int .i64 x.clock_, .int .i64 x.owner_, .bool x.lost_, .slice A0 n0 c0, .slice A1 n1 c1, .slice A2 n2 c2, .slice A3 n3 c3, .slice A4 n4 c4, .slice A5 n5 c5] := by
  obtain ⟨A0, n0, c0, A1, n1, c1, A2, n2, c2, A3, n3, c3, A4, n4, c4, A5, n5, c5, lab, rfl, ⟨kh0, mh0, h0⟩, ⟨kh1, mh1, h1⟩, ⟨kh2, mh2, h2⟩, ⟨kh3, mh3, h3⟩, ⟨kh4, mh4, h4⟩, ⟨kh5, mh5, h5⟩⟩ := h
  exact ⟨A0, n0, c0, A1, n1, c1, A2, n2, c2, A3, n3, c3, A4, n4, c4, A5, n5, c5, rfl⟩
set_option maxRecDepth 8000 in
set_option maxHeartbeats 4000000 in
theorem opens_Family : Opens Tryz.prog 122 (fun w cs (x : Family) => Family.R w (fun _ => True) cs x) := by
  intro H enc w base spare held fuel cs x h
  obtain ⟨xs, n, _, _, hlen, hxl, hf⟩ := DataW.trod_struct Tryz.underlying122 h
  rw [show Tryz.prog.cellsOf 122 = 10 from by kernel_rfl] at hlen
  have hxl' : xs.length = 10 := hxl
  have h0 : DataW.trod enc Tryz.prog w base spare held n 3 ((cs.drop 0).take (Tryz.prog.cellsOf 3)) = xs[0]? := hf 0 _ rfl
  rw [show Tryz.prog.cellsOf 3 = 1 from by kernel_rfl, List.getElem?_eq_getElem (show 0 < xs.length by omega)] at h0
  obtain ⟨f0, e0, -, -⟩ := DataW.trod_int Tryz.underlying3 h0
  have h1 : DataW.trod enc Tryz.prog w base spare held n 3 ((cs.drop 1).take (Tryz.prog.cellsOf 3)) = xs[1]? := hf 1 _ rfl
  rw [show Tryz.prog.cellsOf 3 = 1 from by kernel_rfl, List.getElem?_eq_getElem (show 1 < xs.length by omega)] at h1
  obtain ⟨f1, e1, -, -⟩ := DataW.trod_int Tryz.underlying3 h1
  have h2 : DataW.trod enc Tryz.prog w base spare held n 3 ((cs.drop 2).take (Tryz.prog.cellsOf 3)) = xs[2]? := hf 2 _ rfl
  rw [show Tryz.prog.cellsOf 3 = 1 from by kernel_rfl, List.getElem?_eq_getElem (show 2 < xs.length by omega)] at h2
  obtain ⟨f2, e2, -, -⟩ := DataW.trod_int Tryz.underlying3 h2
  have h3 : DataW.trod enc Tryz.prog w base spare held n 4 ((cs.drop 3).take (Tryz.prog.cellsOf 4)) = xs[3]? := hf 3 _ rfl
  rw [show Tryz.prog.cellsOf 4 = 1 from by kernel_rfl, List.getElem?_eq_getElem (show 3 < xs.length by omega)] at h3
  obtain ⟨f3, e3, -⟩ := DataW.trod_bool Tryz.underlying4 h3
  have h4 : DataW.trod enc Tryz.prog w base spare held n 22 ((cs.drop 4).take (Tryz.prog.cellsOf 22)) = xs[4]? := hf 4 _ rfl
  rw [show Tryz.prog.cellsOf 22 = 1 from by kernel_rfl, List.getElem?_eq_getElem (show 4 < xs.length by omega)] at h4
  obtain ⟨f4, A4, n4, c4, e4, g4, g4', -, -, s4⟩ := opens_ints Tryz.underlying22 Tryz.underlying3 (by kernel_rfl) H enc w base spare held n _ _ h4
  have h5 : DataW.trod enc Tryz.prog w base spare held n 113 ((cs.drop 5).take (Tryz.prog.cellsOf 113)) = xs[5]? := hf 5 _ rfl
  rw [show Tryz.prog.cellsOf 113 = 1 from by kernel_rfl, List.getElem?_eq_getElem (show 5 < xs.length by omega)] at h5
  obtain ⟨f5, A5, n5, c5, e5, g5, g5', -, -, s5⟩ := opens_flat Tryz.underlying113 (by kernel_rfl) (by omega) Row.cells_length opens_Row H enc w base spare held n _ _ h5
  have h6 : DataW.trod enc Tryz.prog w base spare held n 119 ((cs.drop 6).take (Tryz.prog.cellsOf 119)) = xs[6]? := hf 6 _ rfl
  rw [show Tryz.prog.cellsOf 119 = 1 from by kernel_rfl, List.getElem?_eq_getElem (show 6 < xs.length by omega)] at h6
  obtain ⟨f6, A6, n6, c6, e6, g6, g6', -, -, s6⟩ := opens_flat Tryz.underlying119 (by kernel_rfl) (by omega) Entry.cells_length opens_Entry H enc w base spare held n _ _ h6
  have h7 : DataW.trod enc Tryz.prog w base spare held n 22 ((cs.drop 7).take (Tryz.prog.cellsOf 22)) = xs[7]? := hf 7 _ rfl
  rw [show Tryz.prog.cellsOf 22 = 1 from by kernel_rfl, List.getElem?_eq_getElem (show 7 < xs.length by omega)] at h7
  obtain ⟨f7, A7, n7, c7, e7, g7, g7', -, -, s7⟩ := opens_ints Tryz.underlying22 Tryz.underlying3 (by kernel_rfl) H enc w base spare held n _ _ h7
  have h8 : DataW.trod enc Tryz.prog w base spare held n 113 ((cs.drop 8).take (Tryz.prog.cellsOf 113)) = xs[8]? := hf 8 _ rfl
  rw [show Tryz.prog.cellsOf 113 = 1 from by kernel_rfl, List.getElem?_eq_getElem (show 8 < xs.length by omega)] at h8
  obtain ⟨f8, A8, n8, c8, e8, g8, g8', -, -, s8⟩ := opens_flat Tryz.underlying113 (by kernel_rfl) (by omega) Row.cells_length opens_Row H enc w base spare held n _ _ h8
  have h9 : DataW.trod enc Tryz.prog w base spare held n 120 ((cs.drop 9).take (Tryz.prog.cellsOf 120)) = xs[9]? := hf 9 _ rfl
  rw [show Tryz.prog.cellsOf 120 = 1 from by kernel_rfl, List.getElem?_eq_getElem (show 9 < xs.length by omega)] at h9
  obtain ⟨f9, A9, n9, c9, e9, g9, g9', s9⟩ := opens_deep KidRun.R_good Tryz.underlying120 (by kernel_rfl) (by omega) opens_KidRun H enc w base spare held n _ _ h9
  clear h0 h1 h2 h3 h4 h5 h6 h7 h8 h9 hf h hxl hxl'
  match cs, hlen with
  | [q0, q1, q2, q3, q4, q5, q6, q7, q8, q9], _ =>
    simp only [List.drop_succ_cons, List.drop_zero, List.take_succ_cons, List.take_zero, List.cons.injEq, and_true] at e0 e1 e2 e3 e4 e5 e6 e7 e8 e9
    subst e0
    subst e1
    subst e2
    subst e3
    subst e4
    subst e5
    subst e6
    subst e7
    subst e8
    subst e9
    exact ⟨⟨f0, f1, f2, f3, f4, f5, f6, f7, f8, f9⟩, _, _, _, _, _, _, _, _, _, _, _, _, _, _, _, _, _, _, rfl, ⟨g4, Nat.le_trans g4 g4', s4⟩, ⟨g5, Nat.le_trans g5 g5', s5⟩, ⟨g6, Nat.le_trans g6 g6', s6⟩, ⟨g7, Nat.le_trans g7 g7', s7⟩, ⟨g8, Nat.le_trans g8 g8', s8⟩, ⟨g9, Nat.le_trans g9 g9', s9⟩⟩
set_option maxRecDepth 8000 in
set_option maxHeartbeats 4000000 in
theorem szFamily_any (x : Family) (cs : List Value) (q : Int) (w : World) (S : Nat → Prop) (h : Family.R w S cs x) (hq0 : 0 ≤ q) (hq2 : q ≤ 1048576) :
    Calls Tryz.prog 92 #[.agg cs.toArray, .int .i64 q] w fun e w' => ∃ r : Int, e = .returned (.int .i64 r) ∧ Left r q (Family.wt x) ∧ Ext w w' := by
  obtain ⟨A0, n0, c0, A1, n1, c1, A2, n2, c2, A3, n3, c3, A4, n4, c4, A5, n5, c5, rfl, ⟨kh0, mh0, h0⟩, ⟨kh1, mh1, h1⟩, ⟨kh2, mh2, h2⟩, ⟨kh3, mh3, h3⟩, ⟨kh4, mh4, h4⟩, ⟨kh5, mh5, h5⟩⟩ := h
  have H0 := Lib.hid h0
  have H1 := Lib.hid h1
  have H2 := Lib.hid h2
  have H3 := Lib.hid h3
  have H4 := Lib.hid h4
  have H5 := Lib.hid h5
  clear h0 h1 h2 h3 h4 h5
  show Calls Tryz.prog _ #[.agg #[.int .i64 x.rv_, .int .i64 x.clock_, .int .i64 x.owner_, .bool x.lost_, .slice A0 n0 c0, .slice A1 n1 c1, .slice A2 n2 c2, .slice A3 n3 c3, .slice A4 n4 c4, .slice A5 n5 c5], .int .i64 q] w _
  go_enter Tryz.func92, Tryz.ntmps92
  go_wp2_with fail
  have L0 := Lib.hid (H0.out.len)
  refine (szIntS_any _ _ _ (q) _ hq0 hq2 mh0).mono ?_
  rintro e w1 ⟨rfl, xq⟩
  have x1 := Ext.of_eq xq
  clear xq
  have Q0 : Hid (Left (if (n0 : Int) ≤ q then q - n0 else -1) q (x.regs_.length)) := by show Left _ _ _; rw [L0.out]; exact Left.of_if
  generalize (if (n0 : Int) ≤ q then q - n0 else -1) = r0 at Q0
  have X1 : Ext w w1 := Ext.tr (((Ext.refl' w).al _)) x1
  have b1 : Hid (Bx w1 w.heap.size 122 #[.int .i64 x.rv_, .int .i64 x.clock_, .int .i64 x.owner_, .bool x.lost_, .slice A0 n0 c0, .slice A1 n1 c1, .slice A2 n2 c2, .slice A3 n3 c3, .slice A4 n4 c4, .slice A5 n5 c5]) := Bx.ext (Bx.new' _ _ _ rfl) x1
  clear x1
  have R0 : Hid (Left r0 q (x.regs_.length)) := Q0
  by_cases g0 : 0 ≤ r0
  rotate_left
  · have e0 : r0 = -1 := by have a := R0.out; unfold Left at a; omega
    subst e0
    clear g0
    go_wp2
    go_ret
    exact ⟨-1, rfl, by have a := R0.out; unfold Left Family.wt at *; omega, X1⟩
  have u0 : r0 ≤ 1048576 := by have a := R0.out; unfold Left at a; omega
  have ca1_5 : w1.cell? ⟨w.heap.size, 5, none⟩ = some (.slice A1 n1 c1) := b1.out.cell 5
  go_wp2_with fail
  have L1 := Lib.hid (H1.out.flen Row.cells_length (by omega))
  refine (szRowS_any _ _ _ (r0) _ g0 u0 mh1).mono ?_
  rintro e w2 ⟨rfl, xq⟩
  have x2 := Ext.of_eq xq
  clear xq
  have Q1 : Hid (Left (if (n1 : Int) ≤ r0 then r0 - n1 else -1) r0 (x.start_.length)) := by show Left _ _ _; rw [L1.out]; exact Left.of_if
  generalize (if (n1 : Int) ≤ r0 then r0 - n1 else -1) = r1 at Q1
  have X2 : Ext w w2 := Ext.tr (X1) x2
  have b2 : Hid (Bx w2 w.heap.size 122 #[.int .i64 x.rv_, .int .i64 x.clock_, .int .i64 x.owner_, .bool x.lost_, .slice A0 n0 c0, .slice A1 n1 c1, .slice A2 n2 c2, .slice A3 n3 c3, .slice A4 n4 c4, .slice A5 n5 c5]) := Bx.ext (b1.out) x2
  clear x2
  have R1 : Hid (Left r1 q (x.regs_.length + x.start_.length)) := by show Left _ _ _; have a := R0.out; have b := Q1.out; unfold Left at *; omega
  by_cases g1 : 0 ≤ r1
  rotate_left
  · have e1 : r1 = -1 := by have a := R1.out; unfold Left at a; omega
    subst e1
    clear g1
    go_wp2
    go_ret
    exact ⟨-1, rfl, by have a := R1.out; unfold Left Family.wt at *; omega, X2⟩
  have u1 : r1 ≤ 1048576 := by have a := R1.out; unfold Left at a; omega
  have ca2_6 : w2.cell? ⟨w.heap.size, 6, none⟩ = some (.slice A2 n2 c2) := b2.out.cell 6
  go_wp2_with fail
  have L2 := Lib.hid (H2.out.flen Entry.cells_length (by omega))
  refine (szEntryS_any _ _ _ (r1) _ g1 u1 mh2).mono ?_
  rintro e w3 ⟨rfl, xq⟩
  have x3 := Ext.of_eq xq
  clear xq
  have Q2 : Hid (Left (if (n2 : Int) ≤ r1 then r1 - n2 else -1) r1 (x.buf_.length)) := by show Left _ _ _; rw [L2.out]; exact Left.of_if
  generalize (if (n2 : Int) ≤ r1 then r1 - n2 else -1) = r2 at Q2
  have X3 : Ext w w3 := Ext.tr (X2) x3
  have b3 : Hid (Bx w3 w.heap.size 122 #[.int .i64 x.rv_, .int .i64 x.clock_, .int .i64 x.owner_, .bool x.lost_, .slice A0 n0 c0, .slice A1 n1 c1, .slice A2 n2 c2, .slice A3 n3 c3, .slice A4 n4 c4, .slice A5 n5 c5]) := Bx.ext (b2.out) x3
  clear x3
  have R2 : Hid (Left r2 q (x.regs_.length + x.start_.length + x.buf_.length)) := by show Left _ _ _; have a := R1.out; have b := Q2.out; unfold Left at *; omega
  by_cases g2 : 0 ≤ r2
  rotate_left
  · have e2 : r2 = -1 := by have a := R2.out; unfold Left at a; omega
    subst e2
    clear g2
    go_wp2
    go_ret
    exact ⟨-1, rfl, by have a := R2.out; unfold Left Family.wt at *; omega, X3⟩
  have u2 : r2 ≤ 1048576 := by have a := R2.out; unfold Left at a; omega
  have ca3_7 : w3.cell? ⟨w.heap.size, 7, none⟩ = some (.slice A3 n3 c3) := b3.out.cell 7
  go_wp2_with fail
  have L3 := Lib.hid (H3.out.len)
  refine (szIntS_any _ _ _ (r2) _ g2 u2 mh3).mono ?_
  rintro e w4 ⟨rfl, xq⟩
  have x4 := Ext.of_eq xq
  clear xq
  have Q3 : Hid (Left (if (n3 : Int) ≤ r2 then r2 - n3 else -1) r2 (x.order_.length)) := by show Left _ _ _; rw [L3.out]; exact Left.of_if
  generalize (if (n3 : Int) ≤ r2 then r2 - n3 else -1) = r3 at Q3
  have X4 : Ext w w4 := Ext.tr (X3) x4
  have b4 : Hid (Bx w4 w.heap.size 122 #[.int .i64 x.rv_, .int .i64 x.clock_, .int .i64 x.owner_, .bool x.lost_, .slice A0 n0 c0, .slice A1 n1 c1, .slice A2 n2 c2, .slice A3 n3 c3, .slice A4 n4 c4, .slice A5 n5 c5]) := Bx.ext (b3.out) x4
  clear x4
  have R3 : Hid (Left r3 q (x.regs_.length + x.start_.length + x.buf_.length + x.order_.length)) := by show Left _ _ _; have a := R2.out; have b := Q3.out; unfold Left at *; omega
  by_cases g3 : 0 ≤ r3
  rotate_left
  · have e3 : r3 = -1 := by have a := R3.out; unfold Left at a; omega
    subst e3
    clear g3
    go_wp2
    go_ret
    exact ⟨-1, rfl, by have a := R3.out; unfold Left Family.wt at *; omega, X4⟩
  have u3 : r3 ≤ 1048576 := by have a := R3.out; unfold Left at a; omega
  have ca4_8 : w4.cell? ⟨w.heap.size, 8, none⟩ = some (.slice A4 n4 c4) := b4.out.cell 8
  go_wp2_with fail
  have L4 := Lib.hid (H4.out.flen Row.cells_length (by omega))
  refine (szRowS_any _ _ _ (r3) _ g3 u3 mh4).mono ?_
  rintro e w5 ⟨rfl, xq⟩
  have x5 := Ext.of_eq xq
  clear xq
  have Q4 : Hid (Left (if (n4 : Int) ≤ r3 then r3 - n4 else -1) r3 (x.reads_.length)) := by show Left _ _ _; rw [L4.out]; exact Left.of_if
  generalize (if (n4 : Int) ≤ r3 then r3 - n4 else -1) = r4 at Q4
  have X5 : Ext w w5 := Ext.tr (X4) x5
  have b5 : Hid (Bx w5 w.heap.size 122 #[.int .i64 x.rv_, .int .i64 x.clock_, .int .i64 x.owner_, .bool x.lost_, .slice A0 n0 c0, .slice A1 n1 c1, .slice A2 n2 c2, .slice A3 n3 c3, .slice A4 n4 c4, .slice A5 n5 c5]) := Bx.ext (b4.out) x5
  clear x5
  have R4 : Hid (Left r4 q (x.regs_.length + x.start_.length + x.buf_.length + x.order_.length + x.reads_.length)) := by show Left _ _ _; have a := R3.out; have b := Q4.out; unfold Left at *; omega
  by_cases g4 : 0 ≤ r4
  rotate_left
  · have e4 : r4 = -1 := by have a := R4.out; unfold Left at a; omega
    subst e4
    clear g4
    go_wp2
    go_ret
    exact ⟨-1, rfl, by have a := R4.out; unfold Left Family.wt at *; omega, X5⟩
  have u4 : r4 ≤ 1048576 := by have a := R4.out; unfold Left at a; omega
  have ca5_9 : w5.cell? ⟨w.heap.size, 9, none⟩ = some (.slice A5 n5 c5) := b5.out.cell 9
  go_wp2_with fail
  refine (szKidRunS_any _ _ _ x.kids_ (r4) _ S (SlR.ext KidRun.R_good H5.out (X5)) mh5 g4 u4).mono ?_
  rintro e w6 ⟨r5, rfl, Q5, x6⟩
  replace Q5 := Lib.hid Q5
  have X6 : Ext w w6 := Ext.tr (X5) x6
  have b6 : Hid (Bx w6 w.heap.size 122 #[.int .i64 x.rv_, .int .i64 x.clock_, .int .i64 x.owner_, .bool x.lost_, .slice A0 n0 c0, .slice A1 n1 c1, .slice A2 n2 c2, .slice A3 n3 c3, .slice A4 n4 c4, .slice A5 n5 c5]) := Bx.ext (b5.out) x6
  clear x6
  have R5 : Hid (Left r5 q (x.regs_.length + x.start_.length + x.buf_.length + x.order_.length + x.reads_.length + wtl KidRun.wt x.kids_)) := by show Left _ _ _; have a := R4.out; have b := Q5.out; unfold Left at *; omega
  by_cases g5 : 0 ≤ r5
  rotate_left
  · have e5 : r5 = -1 := by have a := R5.out; unfold Left at a; omega
    subst e5
    clear g5
    go_wp2
    go_ret
    exact ⟨-1, rfl, by have a := R5.out; unfold Left Family.wt at *; omega, X6⟩
  have u5 : r5 ≤ 1048576 := by have a := R5.out; unfold Left at a; omega
  go_wp2
  go_ret
  exact ⟨r5, rfl, R5.out, X6⟩
set_option maxRecDepth 8000 in
set_option maxHeartbeats 8000000 in
theorem toFamily_any (x : Family) (cs : List Value) (w : World) (S : Nat → Prop) (h : Family.R w S cs x) (hw : Family.wt x ≤ 1048576) :
    Calls Tryz.prog 101 #[.agg cs.toArray] w fun e w' => ∃ cs', e = .returned (.agg cs'.toArray) ∧ Family.W w' (fun g => w.heap.size ≤ g ∧ g < w'.heap.size) cs' x ∧ Ext w w' := by
  obtain ⟨A0, n0, c0, A1, n1, c1, A2, n2, c2, A3, n3, c3, A4, n4, c4, A5, n5, c5, rfl, ⟨kh0, mh0, h0⟩, ⟨kh1, mh1, h1⟩, ⟨kh2, mh2, h2⟩, ⟨kh3, mh3, h3⟩, ⟨kh4, mh4, h4⟩, ⟨kh5, mh5, h5⟩⟩ := h
  unfold Family.wt at hw
  have l0 := h0.len
  have n_0 : n0 ≤ 1048576 := by omega
  have l1 := h1.flen Row.cells_length (by omega)
  have n_1 : n1 ≤ 1048576 := by omega
  have l2 := h2.flen Entry.cells_length (by omega)
  have n_2 : n2 ≤ 1048576 := by omega
  have l3 := h3.len
  have n_3 : n3 ≤ 1048576 := by omega
  have l4 := h4.flen Row.cells_length (by omega)
  have n_4 : n4 ≤ 1048576 := by omega
  have l5 := h5.1
  have t5 := wtl_len KidRun.wt x.kids_
  have n_5 : n5 ≤ 1048576 := by omega
  have W_5 : wtl KidRun.wt x.kids_ ≤ 1048576 := by omega
  have H0 := Lib.hid h0
  have H1 := Lib.hid h1
  have H2 := Lib.hid h2
  have H3 := Lib.hid h3
  have H4 := Lib.hid h4
  have H5 := Lib.hid h5
  clear h0 h1 h2 h3 h4 h5 hw l0 l1 l2 l3 l4 l5 t5
  show Calls Tryz.prog _ #[.agg #[.int .i64 x.rv_, .int .i64 x.clock_, .int .i64 x.owner_, .bool x.lost_, .slice A0 n0 c0, .slice A1 n1 c1, .slice A2 n2 c2, .slice A3 n3 c3, .slice A4 n4 c4, .slice A5 n5 c5]] w _
  go_enter Tryz.func101, Tryz.ntmps101
  go_wp2_with fail
  refine (toIntS_any _ _ _ _ _ S (H0.out.ext ((((Ext.refl' w).al _).al _).al _)) n_0).mono ?_
  rintro e w1 ⟨B0, d0, rfl, o0, x1⟩
  have K0 : Hid (n0 ≤ d0) := own_cap o0
  replace o0 := Lib.hid (OwS.of_own o0)
  have z1 : w.heap.size + 3 ≤ w1.heap.size := by have h := x1.size; (try simp at h); omega
  have ba1 : Hid (Bx w1 (w.heap.size) 122 #[.int .i64 x.rv_, .int .i64 x.clock_, .int .i64 x.owner_, .bool x.lost_, .slice A0 n0 c0, .slice A1 n1 c1, .slice A2 n2 c2, .slice A3 n3 c3, .slice A4 n4 c4, .slice A5 n5 c5]) := Bx.ext (((Bx.new' _ _ _ rfl).al _).al _) x1
  have br1 : Hid (Bx w1 (w.heap.size + 1) 81 #[.int .i64 0, .int .i64 0, .int .i64 0, .bool false, .slice none 0 0, .slice none 0 0, .slice none 0 0, .slice none 0 0, .slice none 0 0, .slice none 0 0]) := Bx.ext ((Bx.new' _ _ _ (by simp)).al _) x1
  have bo1 : Hid (Bx w1 (w.heap.size + 2) 81 #[.int .i64 x.rv_, .int .i64 x.clock_, .int .i64 x.owner_, .bool x.lost_, .slice none 0 0, .slice none 0 0, .slice none 0 0, .slice none 0 0, .slice none 0 0, .slice none 0 0]) := Bx.ext (Bx.new' _ _ _ (by simp)) x1
  have X1 : Ext w w1 := Ext.tr ((((Ext.refl' w).al _).al _).al _) x1
  replace o0 : Hid (OwS w1 (fun g => w.heap.size + 3 ≤ g ∧ g < w1.heap.size) 3 1 B0 n0 d0 (ints x.regs_)) := o0.out.mono (fun g _ hg => by have h1 := hg.1; have h2 := hg.2; constructor <;> (try simp at h1) <;> omega)
  clear x1
  have ca1_5 : w1.cell? ⟨w.heap.size, 5, none⟩ = some (.slice A1 n1 c1) := ba1.out.cell 5
  have co1_4 : w1.cell? ⟨w.heap.size + 2, 4, none⟩ = some (.slice none 0 0) := bo1.out.cell 4
  have fo1_4 : w1.frozen? ⟨w.heap.size + 2, 4, none⟩ = false := bo1.out.frozen 4
  go_wp2_with fail
  refine (toRowS_any _ _ _ _ _ S (H1.out.ext ((X1).sc (by first | (simp; done) | (simp; omega)) _)) n_1).mono ?_
  rintro e w2 ⟨B1, d1, rfl, o1, x2⟩
  have K1 : Hid (n1 ≤ d1) := own_cap o1
  replace o1 := Lib.hid (OwS.of_own o1)
  have z2 : w.heap.size + 3 ≤ w2.heap.size := by have h := x2.size; (try simp at h); omega
  have y2 : w1.heap.size ≤ w2.heap.size := by have h := x2.size; (try simp at h); exact h
  have ba2 : Hid (Bx w2 (w.heap.size) 122 #[.int .i64 x.rv_, .int .i64 x.clock_, .int .i64 x.owner_, .bool x.lost_, .slice A0 n0 c0, .slice A1 n1 c1, .slice A2 n2 c2, .slice A3 n3 c3, .slice A4 n4 c4, .slice A5 n5 c5]) := Bx.ext ((ba1.out).far (by first | (simp; done) | (simp; omega)) _) x2
  have br2 : Hid (Bx w2 (w.heap.size + 1) 81 #[.int .i64 0, .int .i64 0, .int .i64 0, .bool false, .slice none 0 0, .slice none 0 0, .slice none 0 0, .slice none 0 0, .slice none 0 0, .slice none 0 0]) := Bx.ext ((br1.out).far (by first | (simp; done) | (simp; omega)) _) x2
  have bo2 : Hid (Bx w2 (w.heap.size + 2) 81 #[.int .i64 x.rv_, .int .i64 x.clock_, .int .i64 x.owner_, .bool x.lost_, .slice B0 n0 d0, .slice none 0 0, .slice none 0 0, .slice none 0 0, .slice none 0 0, .slice none 0 0]) := Bx.ext (((bo1.out).set_ _ _).cast (by first | rfl | simp only [List.setIfInBounds_toArray, List.set_cons_succ, List.set_cons_zero])) x2
  have X2 : Ext w w2 := Ext.tr ((X1).sc (by first | (simp; done) | (simp; omega)) _) x2
  replace o0 := Lib.hid (o0.out.chg (Chg.trans ((Chg.refl (fun g => g = w.heap.size + 2) _).sc rfl _) (x2.chg _)) (fun g hg q => by have h1 := hg.1; have hq3 : g = w.heap.size + 2 := q; omega))
  replace o1 : Hid (OwS w2 (fun g => w1.heap.size ≤ g ∧ g < w2.heap.size) 87 2 B1 n1 d1 (x.start_.flatMap Row.cells)) := o1.out.mono (fun g _ hg => by have h1 := hg.1; have h2 := hg.2; constructor <;> (try simp at h1) <;> omega)
  clear x2
  have ca2_6 : w2.cell? ⟨w.heap.size, 6, none⟩ = some (.slice A2 n2 c2) := ba2.out.cell 6
  have co2_5 : w2.cell? ⟨w.heap.size + 2, 5, none⟩ = some (.slice none 0 0) := bo2.out.cell 5
  have fo2_5 : w2.frozen? ⟨w.heap.size + 2, 5, none⟩ = false := bo2.out.frozen 5
  go_wp2_with fail
  refine (toEntryS_any _ _ _ _ _ S (H2.out.ext ((X2).sc (by first | (simp; done) | (simp; omega)) _)) n_2).mono ?_
  rintro e w3 ⟨B2, d2, rfl, o2, x3⟩
  have K2 : Hid (n2 ≤ d2) := own_cap o2
  replace o2 := Lib.hid (OwS.of_own o2)
  have z3 : w.heap.size + 3 ≤ w3.heap.size := by have h := x3.size; (try simp at h); omega
  have y3 : w2.heap.size ≤ w3.heap.size := by have h := x3.size; (try simp at h); exact h
  have ba3 : Hid (Bx w3 (w.heap.size) 122 #[.int .i64 x.rv_, .int .i64 x.clock_, .int .i64 x.owner_, .bool x.lost_, .slice A0 n0 c0, .slice A1 n1 c1, .slice A2 n2 c2, .slice A3 n3 c3, .slice A4 n4 c4, .slice A5 n5 c5]) := Bx.ext ((ba2.out).far (by first | (simp; done) | (simp; omega)) _) x3
  have br3 : Hid (Bx w3 (w.heap.size + 1) 81 #[.int .i64 0, .int .i64 0, .int .i64 0, .bool false, .slice none 0 0, .slice none 0 0, .slice none 0 0, .slice none 0 0, .slice none 0 0, .slice none 0 0]) := Bx.ext ((br2.out).far (by first | (simp; done) | (simp; omega)) _) x3
  have bo3 : Hid (Bx w3 (w.heap.size + 2) 81 #[.int .i64 x.rv_, .int .i64 x.clock_, .int .i64 x.owner_, .bool x.lost_, .slice B0 n0 d0, .slice B1 n1 d1, .slice none 0 0, .slice none 0 0, .slice none 0 0, .slice none 0 0]) := Bx.ext (((bo2.out).set_ _ _).cast (by first | rfl | simp only [List.setIfInBounds_toArray, List.set_cons_succ, List.set_cons_zero])) x3
  have X3 : Ext w w3 := Ext.tr ((X2).sc (by first | (simp; done) | (simp; omega)) _) x3
  replace o0 := Lib.hid (o0.out.chg (Chg.trans ((Chg.refl (fun g => g = w.heap.size + 2) _).sc rfl _) (x3.chg _)) (fun g hg q => by have h1 := hg.1; have hq3 : g = w.heap.size + 2 := q; omega))
  replace o1 := Lib.hid (o1.out.chg (Chg.trans ((Chg.refl (fun g => g = w.heap.size + 2) _).sc rfl _) (x3.chg _)) (fun g hg q => by have h1 := hg.1; have hq3 : g = w.heap.size + 2 := q; omega))
  replace o2 : Hid (OwS w3 (fun g => w2.heap.size ≤ g ∧ g < w3.heap.size) 140 3 B2 n2 d2 (x.buf_.flatMap Entry.cells)) := o2.out.mono (fun g _ hg => by have h1 := hg.1; have h2 := hg.2; constructor <;> (try simp at h1) <;> omega)
  clear x3
  have ca3_7 : w3.cell? ⟨w.heap.size, 7, none⟩ = some (.slice A3 n3 c3) := ba3.out.cell 7
  have co3_6 : w3.cell? ⟨w.heap.size + 2, 6, none⟩ = some (.slice none 0 0) := bo3.out.cell 6
  have fo3_6 : w3.frozen? ⟨w.heap.size + 2, 6, none⟩ = false := bo3.out.frozen 6
  go_wp2_with fail
  refine (toIntS_any _ _ _ _ _ S (H3.out.ext ((X3).sc (by first | (simp; done) | (simp; omega)) _)) n_3).mono ?_
  rintro e w4 ⟨B3, d3, rfl, o3, x4⟩
  have K3 : Hid (n3 ≤ d3) := own_cap o3
  replace o3 := Lib.hid (OwS.of_own o3)
  have z4 : w.heap.size + 3 ≤ w4.heap.size := by have h := x4.size; (try simp at h); omega
  have y4 : w3.heap.size ≤ w4.heap.size := by have h := x4.size; (try simp at h); exact h
  have ba4 : Hid (Bx w4 (w.heap.size) 122 #[.int .i64 x.rv_, .int .i64 x.clock_, .int .i64 x.owner_, .bool x.lost_, .slice A0 n0 c0, .slice A1 n1 c1, .slice A2 n2 c2, .slice A3 n3 c3, .slice A4 n4 c4, .slice A5 n5 c5]) := Bx.ext ((ba3.out).far (by first | (simp; done) | (simp; omega)) _) x4
  have br4 : Hid (Bx w4 (w.heap.size + 1) 81 #[.int .i64 0, .int .i64 0, .int .i64 0, .bool false, .slice none 0 0, .slice none 0 0, .slice none 0 0, .slice none 0 0, .slice none 0 0, .slice none 0 0]) := Bx.ext ((br3.out).far (by first | (simp; done) | (simp; omega)) _) x4
  have bo4 : Hid (Bx w4 (w.heap.size + 2) 81 #[.int .i64 x.rv_, .int .i64 x.clock_, .int .i64 x.owner_, .bool x.lost_, .slice B0 n0 d0, .slice B1 n1 d1, .slice B2 n2 d2, .slice none 0 0, .slice none 0 0, .slice none 0 0]) := Bx.ext (((bo3.out).set_ _ _).cast (by first | rfl | simp only [List.setIfInBounds_toArray, List.set_cons_succ, List.set_cons_zero])) x4
  have X4 : Ext w w4 := Ext.tr ((X3).sc (by first | (simp; done) | (simp; omega)) _) x4
  replace o0 := Lib.hid (o0.out.chg (Chg.trans ((Chg.refl (fun g => g = w.heap.size + 2) _).sc rfl _) (x4.chg _)) (fun g hg q => by have h1 := hg.1; have hq3 : g = w.heap.size + 2 := q; omega))
  replace o1 := Lib.hid (o1.out.chg (Chg.trans ((Chg.refl (fun g => g = w.heap.size + 2) _).sc rfl _) (x4.chg _)) (fun g hg q => by have h1 := hg.1; have hq3 : g = w.heap.size + 2 := q; omega))
  replace o2 := Lib.hid (o2.out.chg (Chg.trans ((Chg.refl (fun g => g = w.heap.size + 2) _).sc rfl _) (x4.chg _)) (fun g hg q => by have h1 := hg.1; have hq3 : g = w.heap.size + 2 := q; omega))
  replace o3 : Hid (OwS w4 (fun g => w3.heap.size ≤ g ∧ g < w4.heap.size) 3 1 B3 n3 d3 (ints x.order_)) := o3.out.mono (fun g _ hg => by have h1 := hg.1; have h2 := hg.2; constructor <;> (try simp at h1) <;> omega)
  clear x4
  have ca4_8 : w4.cell? ⟨w.heap.size, 8, none⟩ = some (.slice A4 n4 c4) := ba4.out.cell 8
  have co4_7 : w4.cell? ⟨w.heap.size + 2, 7, none⟩ = some (.slice none 0 0) := bo4.out.cell 7
  have fo4_7 : w4.frozen? ⟨w.heap.size + 2, 7, none⟩ = false := bo4.out.frozen 7
  go_wp2_with fail
  refine (toRowS_any _ _ _ _ _ S (H4.out.ext ((X4).sc (by first | (simp; done) | (simp; omega)) _)) n_4).mono ?_
  rintro e w5 ⟨B4, d4, rfl, o4, x5⟩
  have K4 : Hid (n4 ≤ d4) := own_cap o4
  replace o4 := Lib.hid (OwS.of_own o4)
  have z5 : w.heap.size + 3 ≤ w5.heap.size := by have h := x5.size; (try simp at h); omega
  have y5 : w4.heap.size ≤ w5.heap.size := by have h := x5.size; (try simp at h); exact h
  have ba5 : Hid (Bx w5 (w.heap.size) 122 #[.int .i64 x.rv_, .int .i64 x.clock_, .int .i64 x.owner_, .bool x.lost_, .slice A0 n0 c0, .slice A1 n1 c1, .slice A2 n2 c2, .slice A3 n3 c3, .slice A4 n4 c4, .slice A5 n5 c5]) := Bx.ext ((ba4.out).far (by first | (simp; done) | (simp; omega)) _) x5
  have br5 : Hid (Bx w5 (w.heap.size + 1) 81 #[.int .i64 0, .int .i64 0, .int .i64 0, .bool false, .slice none 0 0, .slice none 0 0, .slice none 0 0, .slice none 0 0, .slice none 0 0, .slice none 0 0]) := Bx.ext ((br4.out).far (by first | (simp; done) | (simp; omega)) _) x5
  have bo5 : Hid (Bx w5 (w.heap.size + 2) 81 #[.int .i64 x.rv_, .int .i64 x.clock_, .int .i64 x.owner_, .bool x.lost_, .slice B0 n0 d0, .slice B1 n1 d1, .slice B2 n2 d2, .slice B3 n3 d3, .slice none 0 0, .slice none 0 0]) := Bx.ext (((bo4.out).set_ _ _).cast (by first | rfl | simp only [List.setIfInBounds_toArray, List.set_cons_succ, List.set_cons_zero])) x5
  have X5 : Ext w w5 := Ext.tr ((X4).sc (by first | (simp; done) | (simp; omega)) _) x5
  replace o0 := Lib.hid (o0.out.chg (Chg.trans ((Chg.refl (fun g => g = w.heap.size + 2) _).sc rfl _) (x5.chg _)) (fun g hg q => by have h1 := hg.1; have hq3 : g = w.heap.size + 2 := q; omega))
  replace o1 := Lib.hid (o1.out.chg (Chg.trans ((Chg.refl (fun g => g = w.heap.size + 2) _).sc rfl _) (x5.chg _)) (fun g hg q => by have h1 := hg.1; have hq3 : g = w.heap.size + 2 := q; omega))
  replace o2 := Lib.hid (o2.out.chg (Chg.trans ((Chg.refl (fun g => g = w.heap.size + 2) _).sc rfl _) (x5.chg _)) (fun g hg q => by have h1 := hg.1; have hq3 : g = w.heap.size + 2 := q; omega))
  replace o3 := Lib.hid (o3.out.chg (Chg.trans ((Chg.refl (fun g => g = w.heap.size + 2) _).sc rfl _) (x5.chg _)) (fun g hg q => by have h1 := hg.1; have hq3 : g = w.heap.size + 2 := q; omega))
  replace o4 : Hid (OwS w5 (fun g => w4.heap.size ≤ g ∧ g < w5.heap.size) 87 2 B4 n4 d4 (x.reads_.flatMap Row.cells)) := o4.out.mono (fun g _ hg => by have h1 := hg.1; have h2 := hg.2; constructor <;> (try simp at h1) <;> omega)
  clear x5
  have ca5_9 : w5.cell? ⟨w.heap.size, 9, none⟩ = some (.slice A5 n5 c5) := ba5.out.cell 9
  have co5_8 : w5.cell? ⟨w.heap.size + 2, 8, none⟩ = some (.slice none 0 0) := bo5.out.cell 8
  have fo5_8 : w5.frozen? ⟨w.heap.size + 2, 8, none⟩ = false := bo5.out.frozen 8
  go_wp2_with fail
  refine (toKidRunS_any _ _ _ x.kids_ _ S (SlR.ext KidRun.R_good H5.out ((X5).sc (by first | (simp; done) | (simp; omega)) _)) n_5 W_5).mono ?_
  rintro e w6 ⟨B5, d5, rfl, o5, x6⟩
  replace o5 := Lib.hid o5
  have z6 : w.heap.size + 3 ≤ w6.heap.size := by have h := x6.size; (try simp at h); omega
  have y6 : w5.heap.size ≤ w6.heap.size := by have h := x6.size; (try simp at h); exact h
  have ba6 : Hid (Bx w6 (w.heap.size) 122 #[.int .i64 x.rv_, .int .i64 x.clock_, .int .i64 x.owner_, .bool x.lost_, .slice A0 n0 c0, .slice A1 n1 c1, .slice A2 n2 c2, .slice A3 n3 c3, .slice A4 n4 c4, .slice A5 n5 c5]) := Bx.ext ((ba5.out).far (by first | (simp; done) | (simp; omega)) _) x6
  have br6 : Hid (Bx w6 (w.heap.size + 1) 81 #[.int .i64 0, .int .i64 0, .int .i64 0, .bool false, .slice none 0 0, .slice none 0 0, .slice none 0 0, .slice none 0 0, .slice none 0 0, .slice none 0 0]) := Bx.ext ((br5.out).far (by first | (simp; done) | (simp; omega)) _) x6
  have bo6 : Hid (Bx w6 (w.heap.size + 2) 81 #[.int .i64 x.rv_, .int .i64 x.clock_, .int .i64 x.owner_, .bool x.lost_, .slice B0 n0 d0, .slice B1 n1 d1, .slice B2 n2 d2, .slice B3 n3 d3, .slice B4 n4 d4, .slice none 0 0]) := Bx.ext (((bo5.out).set_ _ _).cast (by first | rfl | simp only [List.setIfInBounds_toArray, List.set_cons_succ, List.set_cons_zero])) x6
  have X6 : Ext w w6 := Ext.tr ((X5).sc (by first | (simp; done) | (simp; omega)) _) x6
  replace o0 := Lib.hid (o0.out.chg (Chg.trans ((Chg.refl (fun g => g = w.heap.size + 2) _).sc rfl _) (x6.chg _)) (fun g hg q => by have h1 := hg.1; have hq3 : g = w.heap.size + 2 := q; omega))
  replace o1 := Lib.hid (o1.out.chg (Chg.trans ((Chg.refl (fun g => g = w.heap.size + 2) _).sc rfl _) (x6.chg _)) (fun g hg q => by have h1 := hg.1; have hq3 : g = w.heap.size + 2 := q; omega))
  replace o2 := Lib.hid (o2.out.chg (Chg.trans ((Chg.refl (fun g => g = w.heap.size + 2) _).sc rfl _) (x6.chg _)) (fun g hg q => by have h1 := hg.1; have hq3 : g = w.heap.size + 2 := q; omega))
  replace o3 := Lib.hid (o3.out.chg (Chg.trans ((Chg.refl (fun g => g = w.heap.size + 2) _).sc rfl _) (x6.chg _)) (fun g hg q => by have h1 := hg.1; have hq3 : g = w.heap.size + 2 := q; omega))
  replace o4 := Lib.hid (o4.out.chg (Chg.trans ((Chg.refl (fun g => g = w.heap.size + 2) _).sc rfl _) (x6.chg _)) (fun g hg q => by have h1 := hg.1; have hq3 : g = w.heap.size + 2 := q; omega))
  replace o5 : Hid (SlW KidRun.W 138 15 w6 (fun g => w5.heap.size ≤ g ∧ g < w6.heap.size) B5 n5 d5 x.kids_) := o5.out.mono KidRun.W_good (fun g hg => by have h1 := hg.1; have h2 := hg.2; constructor <;> (try simp at h1) <;> omega)
  clear x6
  have co6_0 : w6.cell? ⟨w.heap.size + 2, 0, none⟩ = some (.int .i64 x.rv_) := bo6.out.cell 0
  have co6_1 : w6.cell? ⟨w.heap.size + 2, 1, none⟩ = some (.int .i64 x.clock_) := bo6.out.cell 1
  have co6_2 : w6.cell? ⟨w.heap.size + 2, 2, none⟩ = some (.int .i64 x.owner_) := bo6.out.cell 2
  have co6_3 : w6.cell? ⟨w.heap.size + 2, 3, none⟩ = some (.bool x.lost_) := bo6.out.cell 3
  have co6_4 : w6.cell? ⟨w.heap.size + 2, 4, none⟩ = some (.slice B0 n0 d0) := bo6.out.cell 4
  have co6_5 : w6.cell? ⟨w.heap.size + 2, 5, none⟩ = some (.slice B1 n1 d1) := bo6.out.cell 5
  have co6_6 : w6.cell? ⟨w.heap.size + 2, 6, none⟩ = some (.slice B2 n2 d2) := bo6.out.cell 6
  have co6_7 : w6.cell? ⟨w.heap.size + 2, 7, none⟩ = some (.slice B3 n3 d3) := bo6.out.cell 7
  have co6_8 : w6.cell? ⟨w.heap.size + 2, 8, none⟩ = some (.slice B4 n4 d4) := bo6.out.cell 8
  have co6_9 : w6.cell? ⟨w.heap.size + 2, 9, none⟩ = some (.slice none 0 0) := bo6.out.cell 9
  have fo6_9 : w6.frozen? ⟨w.heap.size + 2, 9, none⟩ = false := bo6.out.frozen 9
  have cr6_0 : w6.cell? ⟨w.heap.size + 1, 0, none⟩ = some (.int .i64 0) := br6.out.cell 0
  have fr6_0 : w6.frozen? ⟨w.heap.size + 1, 0, none⟩ = false := br6.out.frozen 0
  have cr6_1 : w6.cell? ⟨w.heap.size + 1, 1, none⟩ = some (.int .i64 0) := br6.out.cell 1
  have fr6_1 : w6.frozen? ⟨w.heap.size + 1, 1, none⟩ = false := br6.out.frozen 1
  have cr6_2 : w6.cell? ⟨w.heap.size + 1, 2, none⟩ = some (.int .i64 0) := br6.out.cell 2
  have fr6_2 : w6.frozen? ⟨w.heap.size + 1, 2, none⟩ = false := br6.out.frozen 2
  have cr6_3 : w6.cell? ⟨w.heap.size + 1, 3, none⟩ = some (.bool false) := br6.out.cell 3
  have fr6_3 : w6.frozen? ⟨w.heap.size + 1, 3, none⟩ = false := br6.out.frozen 3
  have cr6_4 : w6.cell? ⟨w.heap.size + 1, 4, none⟩ = some (.slice none 0 0) := br6.out.cell 4
  have fr6_4 : w6.frozen? ⟨w.heap.size + 1, 4, none⟩ = false := br6.out.frozen 4
  have cr6_5 : w6.cell? ⟨w.heap.size + 1, 5, none⟩ = some (.slice none 0 0) := br6.out.cell 5
  have fr6_5 : w6.frozen? ⟨w.heap.size + 1, 5, none⟩ = false := br6.out.frozen 5
  have cr6_6 : w6.cell? ⟨w.heap.size + 1, 6, none⟩ = some (.slice none 0 0) := br6.out.cell 6
  have fr6_6 : w6.frozen? ⟨w.heap.size + 1, 6, none⟩ = false := br6.out.frozen 6
  have cr6_7 : w6.cell? ⟨w.heap.size + 1, 7, none⟩ = some (.slice none 0 0) := br6.out.cell 7
  have fr6_7 : w6.frozen? ⟨w.heap.size + 1, 7, none⟩ = false := br6.out.frozen 7
  have cr6_8 : w6.cell? ⟨w.heap.size + 1, 8, none⟩ = some (.slice none 0 0) := br6.out.cell 8
  have fr6_8 : w6.frozen? ⟨w.heap.size + 1, 8, none⟩ = false := br6.out.frozen 8
  have cr6_9 : w6.cell? ⟨w.heap.size + 1, 9, none⟩ = some (.slice none 0 0) := br6.out.cell 9
  have fr6_9 : w6.frozen? ⟨w.heap.size + 1, 9, none⟩ = false := br6.out.frozen 9
  go_wp2
  refine bodyPost_ret (v := .agg #[.int .i64 x.rv_, .int .i64 x.clock_, .int .i64 x.owner_, .bool x.lost_, .slice B0 n0 d0, .slice B1 n1 d1, .slice B2 n2 d2, .slice B3 n3 d3, .slice B4 n4 d4, .slice B5 n5 d5]) (by simp [results, Tryz.results101, go_sem, cr6_0, cr6_1, cr6_2, cr6_3, cr6_4, cr6_5, cr6_6, cr6_7, cr6_8, cr6_9]) rfl ⟨[.int .i64 x.rv_, .int .i64 x.clock_, .int .i64 x.owner_, .bool x.lost_, .slice B0 n0 d0, .slice B1 n1 d1, .slice B2 n2 d2, .slice B3 n3 d3, .slice B4 n4 d4, .slice B5 n5 d5], rfl, ?_, ?_⟩
  · refine (?_ : ∀ wz, Chg (fun g => g = w.heap.size + 2 ∨ g = w.heap.size + 1) w6 wz → Family.W wz (fun g => w.heap.size ≤ g ∧ g < wz.heap.size) [.int .i64 x.rv_, .int .i64 x.clock_, .int .i64 x.owner_, .bool x.lost_, .slice B0 n0 d0, .slice B1 n1 d1, .slice B2 n2 d2, .slice B3 n3 d3, .slice B4 n4 d4, .slice B5 n5 d5] x) _ ((((((((((((Chg.refl (fun g => g = w.heap.size + 2 ∨ g = w.heap.size + 1) _).sc (by first | (simp; done) | (simp; omega)) _).sc (by first | (simp; done) | (simp; omega)) _).sc (by first | (simp; done) | (simp; omega)) _).sc (by first | (simp; done) | (simp; omega)) _).sc (by first | (simp; done) | (simp; omega)) _).sc (by first | (simp; done) | (simp; omega)) _).sc (by first | (simp; done) | (simp; omega)) _).sc (by first | (simp; done) | (simp; omega)) _).sc (by first | (simp; done) | (simp; omega)) _).sc (by first | (simp; done) | (simp; omega)) _).sc (by first | (simp; done) | (simp; omega)) _)
    intro wz cc
    have zz := cc.size
    exact ⟨B0, n0, d0, B1, n1, d1, B2, n2, d2, B3, n3, d3, B4, n4, d4, B5, n5, d5, lb [w1.heap.size, w2.heap.size, w3.heap.size, w4.heap.size, w5.heap.size, w6.heap.size], rfl, ⟨K0.out, mh0, (o0.out.chg cc (fun g hg q => by have h1 := hg.1; have hq3 : g = w.heap.size + 2 ∨ g = w.heap.size + 1 := q; omega)).mono (fun g _ hg => ⟨⟨by have h1 := hg.1; omega, by have h2 := hg.2; omega⟩, by have h1 := hg.1; have h2 := hg.2; exact lb_here (by omega)⟩)⟩, ⟨K1.out, mh1, (o1.out.chg cc (fun g hg q => by have h1 := hg.1; have hq3 : g = w.heap.size + 2 ∨ g = w.heap.size + 1 := q; omega)).mono (fun g _ hg => ⟨⟨by have h1 := hg.1; omega, by have h2 := hg.2; omega⟩, by have h1 := hg.1; have h2 := hg.2; exact lb_next (by omega) (lb_here (by omega))⟩)⟩, ⟨K2.out, mh2, (o2.out.chg cc (fun g hg q => by have h1 := hg.1; have hq3 : g = w.heap.size + 2 ∨ g = w.heap.size + 1 := q; omega)).mono (fun g _ hg => ⟨⟨by have h1 := hg.1; omega, by have h2 := hg.2; omega⟩, by have h1 := hg.1; have h2 := hg.2; exact lb_next (by omega) (lb_next (by omega) (lb_here (by omega)))⟩)⟩, ⟨K3.out, mh3, (o3.out.chg cc (fun g hg q => by have h1 := hg.1; have hq3 : g = w.heap.size + 2 ∨ g = w.heap.size + 1 := q; omega)).mono (fun g _ hg => ⟨⟨by have h1 := hg.1; omega, by have h2 := hg.2; omega⟩, by have h1 := hg.1; have h2 := hg.2; exact lb_next (by omega) (lb_next (by omega) (lb_next (by omega) (lb_here (by omega))))⟩)⟩, ⟨K4.out, mh4, (o4.out.chg cc (fun g hg q => by have h1 := hg.1; have hq3 : g = w.heap.size + 2 ∨ g = w.heap.size + 1 := q; omega)).mono (fun g _ hg => ⟨⟨by have h1 := hg.1; omega, by have h2 := hg.2; omega⟩, by have h1 := hg.1; have h2 := hg.2; exact lb_next (by omega) (lb_next (by omega) (lb_next (by omega) (lb_next (by omega) (lb_here (by omega)))))⟩)⟩, ⟨SlW.cap o5.out, mh5, (o5.out.chg KidRun.W_good cc (fun g hg q => by have h1 := hg.1; have hq3 : g = w.heap.size + 2 ∨ g = w.heap.size + 1 := q; omega)).mono KidRun.W_good (fun g hg => ⟨⟨by have h1 := hg.1; omega, by have h2 := hg.2; omega⟩, by have h1 := hg.1; have h2 := hg.2; exact lb_next (by omega) (lb_next (by omega) (lb_next (by omega) (lb_next (by omega) (lb_next (by omega) (lb_here (by omega))))))⟩)⟩⟩
  · exact (((((((((((X6).sc (by first | (simp; done) | (simp; omega)) _).sc (by first | (simp; done) | (simp; omega)) _).sc (by first | (simp; done) | (simp; omega)) _).sc (by first | (simp; done) | (simp; omega)) _).sc (by first | (simp; done) | (simp; omega)) _).sc (by first | (simp; done) | (simp; omega)) _).sc (by first | (simp; done) | (simp; omega)) _).sc (by first | (simp; done) | (simp; omega)) _).sc (by first | (simp; done) | (simp; omega)) _).sc (by first | (simp; done) | (simp; omega)) _).sc (by first | (simp; done) | (simp; omega)) _
set_option maxRecDepth 8000 in
set_option maxHeartbeats 8000000 in
theorem eqFamily_same (x : Family) (cs cs' : List Value) (w : World) (S S' : Nat → Prop) (h : Family.R w S cs x) (u : Family.R w S' cs' x) :
    Calls Tryz.prog 114 #[.agg cs.toArray, .agg cs'.toArray] w fun e w' => e = .returned (.bool true) ∧ Ext w w' := by
  obtain ⟨A0, n0, c0, A1, n1, c1, A2, n2, c2, A3, n3, c3, A4, n4, c4, A5, n5, c5, rfl, ⟨kh0, mh0, h0⟩, ⟨kh1, mh1, h1⟩, ⟨kh2, mh2, h2⟩, ⟨kh3, mh3, h3⟩, ⟨kh4, mh4, h4⟩, ⟨kh5, mh5, h5⟩⟩ := h
  obtain ⟨B0, p0, d0, B1, p1, d1, B2, p2, d2, B3, p3, d3, B4, p4, d4, B5, p5, d5, rfl, ⟨ku0, mu0, u0⟩, ⟨ku1, mu1, u1⟩, ⟨ku2, mu2, u2⟩, ⟨ku3, mu3, u3⟩, ⟨ku4, mu4, u4⟩, ⟨ku5, mu5, u5⟩⟩ := u
  obtain rfl : n0 = p0 := by have a := h0.len; have b := u0.len; omega
  obtain rfl : n1 = p1 := by have a := h1.flen Row.cells_length (by omega); have b := u1.flen Row.cells_length (by omega); omega
  obtain rfl : n2 = p2 := by have a := h2.flen Entry.cells_length (by omega); have b := u2.flen Entry.cells_length (by omega); omega
  obtain rfl : n3 = p3 := by have a := h3.len; have b := u3.len; omega
  obtain rfl : n4 = p4 := by have a := h4.flen Row.cells_length (by omega); have b := u4.flen Row.cells_length (by omega); omega
  obtain rfl : n5 = p5 := by have a := h5.1; have b := u5.1; omega
  have H0 := Lib.hid h0
  have U0 := Lib.hid u0
  have H1 := Lib.hid h1
  have U1 := Lib.hid u1
  have H2 := Lib.hid h2
  have U2 := Lib.hid u2
  have H3 := Lib.hid h3
  have U3 := Lib.hid u3
  have H4 := Lib.hid h4
  have U4 := Lib.hid u4
  have H5 := Lib.hid h5
  have U5 := Lib.hid u5
  clear h0 u0 h1 u1 h2 u2 h3 u3 h4 u4 h5 u5
  show Calls Tryz.prog _ #[.agg #[.int .i64 x.rv_, .int .i64 x.clock_, .int .i64 x.owner_, .bool x.lost_, .slice A0 n0 c0, .slice A1 n1 c1, .slice A2 n2 c2, .slice A3 n3 c3, .slice A4 n4 c4, .slice A5 n5 c5], .agg #[.int .i64 x.rv_, .int .i64 x.clock_, .int .i64 x.owner_, .bool x.lost_, .slice B0 n0 d0, .slice B1 n1 d1, .slice B2 n2 d2, .slice B3 n3 d3, .slice B4 n4 d4, .slice B5 n5 d5]] w _
  go_enter Tryz.func114, Tryz.ntmps114
  go_wp2_with fail
  refine (eqIntS_same _ _ _ _ _ _ _ S S' (H0.out.ext (((Ext.refl' w).al _).al _)) (U0.out.ext (((Ext.refl' w).al _).al _)) mh0).mono ?_
  rintro e w1 ⟨rfl, x1⟩
  have z1 : w.heap.size + 2 ≤ w1.heap.size := by have h := x1.size; (try simp at h); omega
  have ba1 : Hid (Bx w1 (w.heap.size) 81 #[.int .i64 x.rv_, .int .i64 x.clock_, .int .i64 x.owner_, .bool x.lost_, .slice A0 n0 c0, .slice A1 n1 c1, .slice A2 n2 c2, .slice A3 n3 c3, .slice A4 n4 c4, .slice A5 n5 c5]) := Bx.ext ((Bx.new' _ _ _ rfl).al _) x1
  have bb1 : Hid (Bx w1 (w.heap.size + 1) 81 #[.int .i64 x.rv_, .int .i64 x.clock_, .int .i64 x.owner_, .bool x.lost_, .slice B0 n0 d0, .slice B1 n1 d1, .slice B2 n2 d2, .slice B3 n3 d3, .slice B4 n4 d4, .slice B5 n5 d5]) := Bx.ext (Bx.new' _ _ _ (by simp)) x1
  have X1 : Ext w w1 := Ext.tr (((Ext.refl' w).al _).al _) x1
  clear x1
  have ca1_5 : w1.cell? ⟨w.heap.size, 5, none⟩ = some (.slice A1 n1 c1) := ba1.out.cell 5
  have cb1_5 : w1.cell? ⟨w.heap.size + 1, 5, none⟩ = some (.slice B1 n1 d1) := bb1.out.cell 5
  go_wp2_with fail
  refine (eqRowS_same _ _ _ _ _ _ _ S S' (H1.out.ext (X1)) (U1.out.ext (X1)) mh1).mono ?_
  rintro e w2 ⟨rfl, x2⟩
  have z2 : w.heap.size + 2 ≤ w2.heap.size := by have h := x2.size; (try simp at h); omega
  have ba2 : Hid (Bx w2 (w.heap.size) 81 #[.int .i64 x.rv_, .int .i64 x.clock_, .int .i64 x.owner_, .bool x.lost_, .slice A0 n0 c0, .slice A1 n1 c1, .slice A2 n2 c2, .slice A3 n3 c3, .slice A4 n4 c4, .slice A5 n5 c5]) := Bx.ext (ba1.out) x2
  have bb2 : Hid (Bx w2 (w.heap.size + 1) 81 #[.int .i64 x.rv_, .int .i64 x.clock_, .int .i64 x.owner_, .bool x.lost_, .slice B0 n0 d0, .slice B1 n1 d1, .slice B2 n2 d2, .slice B3 n3 d3, .slice B4 n4 d4, .slice B5 n5 d5]) := Bx.ext (bb1.out) x2
  have X2 : Ext w w2 := Ext.tr (X1) x2
  clear x2
  have ca2_6 : w2.cell? ⟨w.heap.size, 6, none⟩ = some (.slice A2 n2 c2) := ba2.out.cell 6
  have cb2_6 : w2.cell? ⟨w.heap.size + 1, 6, none⟩ = some (.slice B2 n2 d2) := bb2.out.cell 6
  go_wp2_with fail
  refine (eqEntryS_same _ _ _ _ _ _ _ S S' (H2.out.ext (X2)) (U2.out.ext (X2)) mh2).mono ?_
  rintro e w3 ⟨rfl, x3⟩
  have z3 : w.heap.size + 2 ≤ w3.heap.size := by have h := x3.size; (try simp at h); omega
  have ba3 : Hid (Bx w3 (w.heap.size) 81 #[.int .i64 x.rv_, .int .i64 x.clock_, .int .i64 x.owner_, .bool x.lost_, .slice A0 n0 c0, .slice A1 n1 c1, .slice A2 n2 c2, .slice A3 n3 c3, .slice A4 n4 c4, .slice A5 n5 c5]) := Bx.ext (ba2.out) x3
  have bb3 : Hid (Bx w3 (w.heap.size + 1) 81 #[.int .i64 x.rv_, .int .i64 x.clock_, .int .i64 x.owner_, .bool x.lost_, .slice B0 n0 d0, .slice B1 n1 d1, .slice B2 n2 d2, .slice B3 n3 d3, .slice B4 n4 d4, .slice B5 n5 d5]) := Bx.ext (bb2.out) x3
  have X3 : Ext w w3 := Ext.tr (X2) x3
  clear x3
  have ca3_7 : w3.cell? ⟨w.heap.size, 7, none⟩ = some (.slice A3 n3 c3) := ba3.out.cell 7
  have cb3_7 : w3.cell? ⟨w.heap.size + 1, 7, none⟩ = some (.slice B3 n3 d3) := bb3.out.cell 7
  go_wp2_with fail
  refine (eqIntS_same _ _ _ _ _ _ _ S S' (H3.out.ext (X3)) (U3.out.ext (X3)) mh3).mono ?_
  rintro e w4 ⟨rfl, x4⟩
  have z4 : w.heap.size + 2 ≤ w4.heap.size := by have h := x4.size; (try simp at h); omega
  have ba4 : Hid (Bx w4 (w.heap.size) 81 #[.int .i64 x.rv_, .int .i64 x.clock_, .int .i64 x.owner_, .bool x.lost_, .slice A0 n0 c0, .slice A1 n1 c1, .slice A2 n2 c2, .slice A3 n3 c3, .slice A4 n4 c4, .slice A5 n5 c5]) := Bx.ext (ba3.out) x4
  have bb4 : Hid (Bx w4 (w.heap.size + 1) 81 #[.int .i64 x.rv_, .int .i64 x.clock_, .int .i64 x.owner_, .bool x.lost_, .slice B0 n0 d0, .slice B1 n1 d1, .slice B2 n2 d2, .slice B3 n3 d3, .slice B4 n4 d4, .slice B5 n5 d5]) := Bx.ext (bb3.out) x4
  have X4 : Ext w w4 := Ext.tr (X3) x4
  clear x4
  have ca4_8 : w4.cell? ⟨w.heap.size, 8, none⟩ = some (.slice A4 n4 c4) := ba4.out.cell 8
  have cb4_8 : w4.cell? ⟨w.heap.size + 1, 8, none⟩ = some (.slice B4 n4 d4) := bb4.out.cell 8
  go_wp2_with fail
  refine (eqRowS_same _ _ _ _ _ _ _ S S' (H4.out.ext (X4)) (U4.out.ext (X4)) mh4).mono ?_
  rintro e w5 ⟨rfl, x5⟩
  have z5 : w.heap.size + 2 ≤ w5.heap.size := by have h := x5.size; (try simp at h); omega
  have ba5 : Hid (Bx w5 (w.heap.size) 81 #[.int .i64 x.rv_, .int .i64 x.clock_, .int .i64 x.owner_, .bool x.lost_, .slice A0 n0 c0, .slice A1 n1 c1, .slice A2 n2 c2, .slice A3 n3 c3, .slice A4 n4 c4, .slice A5 n5 c5]) := Bx.ext (ba4.out) x5
  have bb5 : Hid (Bx w5 (w.heap.size + 1) 81 #[.int .i64 x.rv_, .int .i64 x.clock_, .int .i64 x.owner_, .bool x.lost_, .slice B0 n0 d0, .slice B1 n1 d1, .slice B2 n2 d2, .slice B3 n3 d3, .slice B4 n4 d4, .slice B5 n5 d5]) := Bx.ext (bb4.out) x5
  have X5 : Ext w w5 := Ext.tr (X4) x5
  clear x5
  have ca5_9 : w5.cell? ⟨w.heap.size, 9, none⟩ = some (.slice A5 n5 c5) := ba5.out.cell 9
  have cb5_9 : w5.cell? ⟨w.heap.size + 1, 9, none⟩ = some (.slice B5 n5 d5) := bb5.out.cell 9
  go_wp2_with fail
  refine (eqKidRunS_same _ _ _ _ _ x.kids_ _ S S' (SlR.ext KidRun.R_good H5.out (X5)) (SlR.ext KidRun.R_good U5.out (X5)) mh5).mono ?_
  rintro e w6 ⟨rfl, x6⟩
  have z6 : w.heap.size + 2 ≤ w6.heap.size := by have h := x6.size; (try simp at h); omega
  have ba6 : Hid (Bx w6 (w.heap.size) 81 #[.int .i64 x.rv_, .int .i64 x.clock_, .int .i64 x.owner_, .bool x.lost_, .slice A0 n0 c0, .slice A1 n1 c1, .slice A2 n2 c2, .slice A3 n3 c3, .slice A4 n4 c4, .slice A5 n5 c5]) := Bx.ext (ba5.out) x6
  have bb6 : Hid (Bx w6 (w.heap.size + 1) 81 #[.int .i64 x.rv_, .int .i64 x.clock_, .int .i64 x.owner_, .bool x.lost_, .slice B0 n0 d0, .slice B1 n1 d1, .slice B2 n2 d2, .slice B3 n3 d3, .slice B4 n4 d4, .slice B5 n5 d5]) := Bx.ext (bb5.out) x6
  have X6 : Ext w w6 := Ext.tr (X5) x6
  clear x6
  go_wp2
  go_ret
  exact ⟨rfl, X6⟩

end Go.Proofs.YtglplgbhhnmgbaaGreat
