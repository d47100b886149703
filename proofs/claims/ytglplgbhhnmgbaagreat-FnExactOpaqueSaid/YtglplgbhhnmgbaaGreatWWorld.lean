/- The laws' helpers on World. No condition but sizes. -/
import Derived.Test.YtglplgbhhnmgbaaGreatWRootE
namespace Go.Proofs.YtglplgbhhnmgbaaGreat
open Go.RowKit Go.Deep

/-! ### GWorld -/
structure GWorld where
  now_ : Int
  token_ : Int
  mem_ : Mem
  shelf_ : Shelf
  holds_ : List Hold
  roots_ : List Root
  hist_ : List Wrote
deriving Inhabited
def GWorld.wt (x : GWorld) : Nat := Mem.wt x.mem_ + Shelf.wt x.shelf_ + x.holds_.length + wtl Root.wt x.roots_ + wtl Wrote.wt x.hist_
def GWorld.R (w : World) (S : Nat → Prop) (cs : List Value) (x : GWorld) : Prop := ∃ (v0 : List Value) (v1 : List Value) (A2 : Option Addr) (n2 c2 : Nat) (A3 : Option Addr) (n3 c3 : Nat) (A4 : Option Addr) (n4 c4 : Nat), cs = [.int .i64 x.now_, .int .i64 x.token_] ++ v0 ++ v1 ++ [.slice A2 n2 c2, .slice A3 n3 c3, .slice A4 n4 c4] ∧ Mem.R w S v0 x.mem_ ∧ Shelf.R w S v1 x.shelf_ ∧ (n2 ≤ c2 ∧ n2 ≤ 9223372036854775807 ∧ Sl w S 3 A2 n2 (x.holds_.flatMap Hold.cells)) ∧ (n3 ≤ c3 ∧ n3 ≤ 9223372036854775807 ∧ SlR Root.R 40 w S A3 n3 x.roots_) ∧ (n4 ≤ c4 ∧ n4 ≤ 9223372036854775807 ∧ SlR Wrote.R 3 w S A4 n4 x.hist_)
def GWorld.W (w : World) (S : Nat → Prop) (cs : List Value) (x : GWorld) : Prop := ∃ (v0 : List Value) (v1 : List Value) (A2 : Option Addr) (n2 c2 : Nat) (A3 : Option Addr) (n3 c3 : Nat) (A4 : Option Addr) (n4 c4 : Nat) (lab : Nat → Nat), cs = [.int .i64 x.now_, .int .i64 x.token_] ++ v0 ++ v1 ++ [.slice A2 n2 c2, .slice A3 n3 c3, .slice A4 n4 c4] ∧ Mem.W w (fun g => S g ∧ lab g = 0) v0 x.mem_ ∧ Shelf.W w (fun g => S g ∧ lab g = 1) v1 x.shelf_ ∧ (n2 ≤ c2 ∧ n2 ≤ 9223372036854775807 ∧ OwS w (fun g => S g ∧ lab g = 2) 153 3 A2 n2 c2 (x.holds_.flatMap Hold.cells)) ∧ (n3 ≤ c3 ∧ n3 ≤ 9223372036854775807 ∧ SlW Root.W 83 40 w (fun g => S g ∧ lab g = 3) A3 n3 c3 x.roots_) ∧ (n4 ≤ c4 ∧ n4 ≤ 9223372036854775807 ∧ SlW Wrote.W 132 3 w (fun g => S g ∧ lab g = 4) A4 n4 c4 x.hist_)
theorem GWorld.R_good : Good GWorld.R 9 := ⟨fun {_ _ _ _} h => by
    obtain ⟨v0, v1, A2, n2, c2, A3, n3, c3, A4, n4, c4, rfl, h0, h1, ⟨kh2, mh2, h2⟩, ⟨kh3, mh3, h3⟩, ⟨kh4, mh4, h4⟩⟩ := h
    simp [Mem.R_good.len h0, Shelf.R_good.len h1],
  fun {_ _ _ _ _ _} h k hd => by
    obtain ⟨v0, v1, A2, n2, c2, A3, n3, c3, A4, n4, c4, rfl, h0, h1, ⟨kh2, mh2, h2⟩, ⟨kh3, mh3, h3⟩, ⟨kh4, mh4, h4⟩⟩ := h
    exact ⟨_, _, _, _, _, _, _, _, _, _, _, rfl, Mem.R_good.chg h0 k hd, Shelf.R_good.chg h1 k hd, ⟨kh2, mh2, h2.chg k hd⟩, ⟨kh3, mh3, h3.chg Root.R_good k hd⟩, ⟨kh4, mh4, h4.chg Wrote.R_good k hd⟩⟩,
  fun {_ _ _ _ _} h hs => by
    obtain ⟨v0, v1, A2, n2, c2, A3, n3, c3, A4, n4, c4, rfl, h0, h1, ⟨kh2, mh2, h2⟩, ⟨kh3, mh3, h3⟩, ⟨kh4, mh4, h4⟩⟩ := h
    exact ⟨_, _, _, _, _, _, _, _, _, _, _, rfl, Mem.R_good.mono h0 hs, Shelf.R_good.mono h1 hs, ⟨kh2, mh2, h2.mono hs⟩, ⟨kh3, mh3, h3.mono Root.R_good hs⟩, ⟨kh4, mh4, h4.mono Wrote.R_good hs⟩⟩⟩
theorem GWorld.W_good : Good GWorld.W 9 := ⟨fun {_ _ _ _} h => by
    obtain ⟨v0, v1, A2, n2, c2, A3, n3, c3, A4, n4, c4, lab, rfl, h0, h1, ⟨kh2, mh2, h2⟩, ⟨kh3, mh3, h3⟩, ⟨kh4, mh4, h4⟩⟩ := h
    simp [Mem.W_good.len h0, Shelf.W_good.len h1],
  fun {_ _ _ _ _ _} h k hd => by
    obtain ⟨v0, v1, A2, n2, c2, A3, n3, c3, A4, n4, c4, lab, rfl, h0, h1, ⟨kh2, mh2, h2⟩, ⟨kh3, mh3, h3⟩, ⟨kh4, mh4, h4⟩⟩ := h
    exact ⟨_, _, _, _, _, _, _, _, _, _, _, lab, rfl, Mem.W_good.chg h0 k fun i hi => hd i hi.1, Shelf.W_good.chg h1 k fun i hi => hd i hi.1, ⟨kh2, mh2, h2.chg k fun i hi => hd i hi.1⟩, ⟨kh3, mh3, h3.chg Root.W_good k fun i hi => hd i hi.1⟩, ⟨kh4, mh4, h4.chg Wrote.W_good k fun i hi => hd i hi.1⟩⟩,
  fun {_ _ _ _ _} h hs => by
    obtain ⟨v0, v1, A2, n2, c2, A3, n3, c3, A4, n4, c4, lab, rfl, h0, h1, ⟨kh2, mh2, h2⟩, ⟨kh3, mh3, h3⟩, ⟨kh4, mh4, h4⟩⟩ := h
    exact ⟨_, _, _, _, _, _, _, _, _, _, _, lab, rfl, Mem.W_good.mono h0 fun i hi => ⟨hs i hi.1, hi.2⟩, Shelf.W_good.mono h1 fun i hi => ⟨hs i hi.1, hi.2⟩, ⟨kh2, mh2, h2.mono fun i _ hi => ⟨hs i hi.1, hi.2⟩⟩, ⟨kh3, mh3, h3.mono Root.W_good fun i hi => ⟨hs i hi.1, hi.2⟩⟩, ⟨kh4, mh4, h4.mono Wrote.W_good fun i hi => ⟨hs i hi.1, hi.2⟩⟩⟩⟩
theorem GWorld.W_R {w : World} {S : Nat → Prop} {cs : List Value} {x : GWorld} (h : GWorld.W w S cs x) : GWorld.R w S cs x := by
  obtain ⟨v0, v1, A2, n2, c2, A3, n3, c3, A4, n4, c4, lab, rfl, h0, h1, ⟨kh2, mh2, h2⟩, ⟨kh3, mh3, h3⟩, ⟨kh4, mh4, h4⟩⟩ := h
  exact ⟨_, _, _, _, _, _, _, _, _, _, _, rfl, Mem.R_good.mono (Mem.W_R h0) fun i hi => hi.1, Shelf.R_good.mono (Shelf.W_R h1) fun i hi => hi.1, ⟨kh2, mh2, h2.sl.mono fun i hi => hi.1⟩, ⟨kh3, mh3, (h3.slr Root.R_good Root.W_R).mono Root.R_good fun i hi => hi.1⟩, ⟨kh4, mh4, (h4.slr Wrote.R_good Wrote.W_R).mono Wrote.R_good fun i hi => hi.1⟩⟩
theorem GWorld.R_cells {w : World} {S : Nat → Prop} {cs : List Value} {x : GWorld} (h : GWorld.R w S cs x) : ∃ (A0 : Option Addr) (n0 c0 : Nat) (A1 : Option Addr) (n1 c1 : Nat) (A2 : Option Addr) (n2 c2 : Nat) (A3 : Option Addr) (n3 c3 : Nat) (A4 : Option Addr) (n4 c4 : Nat), cs = [.int .i64 x.now_, .int .i64 x.token_, .int .i64 x.mem_.clock_, .slice A0 n0 c0, .slice A1 n1 c1, .int .i64 x.shelf_.count_, .slice A2 n2 c2, .slice A3 n3 c3, .slice A4 n4 c4] := by
  obtain ⟨v0, v1, A2, n2, c2, A3, n3, c3, A4, n4, c4, rfl, h0, h1, ⟨kh2, mh2, h2⟩, ⟨kh3, mh3, h3⟩, ⟨kh4, mh4, h4⟩⟩ := h
  obtain ⟨P0_0, p0_0, q0_0, rfl⟩ := Mem.R_cells h0
  obtain ⟨P1_0, p1_0, q1_0, rfl⟩ := Shelf.R_cells h1
  exact ⟨P0_0, p0_0, q0_0, P1_0, p1_0, q1_0, A2, n2, c2, A3, n3, c3, A4, n4, c4, rfl⟩
theorem GWorld.W_cells {w : World} {S : Nat → Prop} {cs : List Value} {x : GWorld} (h : GWorld.W w S cs x) : ∃ (A0 : Option Addr) (n0 c0 : Nat) (A1 : Option Addr) (n1 c1 : Nat) (A2 : Option Addr) (n2 c2 : Nat) (A3 : Option Addr) (n3 c3 : Nat) (A4 : Option Addr) (n4 c4 : Nat), cs = [.int .i64 x.now_, .int .i64 x.token_, .int .i64 x.mem_.clock_, .slice A0 n0 c0, .slice A1 n1 c1, .int .i64 x.shelf_.count_, .slice A2 n2 c2, .slice A3 n3 c3, .slice A4 n4 c4] := by
  obtain ⟨v0, v1, A2, n2, c2, A3, n3, c3, A4, n4, c4, lab, rfl, h0, h1, ⟨kh2, mh2, h2⟩, ⟨kh3, mh3, h3⟩, ⟨kh4, mh4, h4⟩⟩ := h
  obtain ⟨P0_0, p0_0, q0_0, rfl⟩ := Mem.W_cells h0
  obtain ⟨P1_0, p1_0, q1_0, rfl⟩ := Shelf.W_cells h1
  exact ⟨P0_0, p0_0, q0_0, P1_0, p1_0, q1_0, A2, n2, c2, A3, n3, c3, A4, n4, c4, rfl⟩
set_option maxRecDepth 8000 in
set_option maxHeartbeats 4000000 in
theorem opens_GWorld : Opens Tryz.prog 38 (fun w cs (x : GWorld) => GWorld.R w (fun _ => True) cs x) := by
  intro H enc w base spare held fuel cs x h
  obtain ⟨xs, n, _, _, hlen, hxl, hf⟩ := DataW.trod_struct Tryz.underlying38 h
  rw [show Tryz.prog.cellsOf 38 = 9 from by kernel_rfl] at hlen
  have hxl' : xs.length = 7 := hxl
  have h0 : DataW.trod enc Tryz.prog w base spare held n 3 ((cs.drop 0).take (Tryz.prog.cellsOf 3)) = xs[0]? := hf 0 _ rfl
  rw [show Tryz.prog.cellsOf 3 = 1 from by kernel_rfl, List.getElem?_eq_getElem (show 0 < xs.length by omega)] at h0
  obtain ⟨f0, e0, -, -⟩ := DataW.trod_int Tryz.underlying3 h0
  have h1 : DataW.trod enc Tryz.prog w base spare held n 3 ((cs.drop 1).take (Tryz.prog.cellsOf 3)) = xs[1]? := hf 1 _ rfl
  rw [show Tryz.prog.cellsOf 3 = 1 from by kernel_rfl, List.getElem?_eq_getElem (show 1 < xs.length by omega)] at h1
  obtain ⟨f1, e1, -, -⟩ := DataW.trod_int Tryz.underlying3 h1
  have h2 : DataW.trod enc Tryz.prog w base spare held n 31 ((cs.drop 2).take (Tryz.prog.cellsOf 31)) = xs[2]? := hf 2 _ rfl
  rw [show Tryz.prog.cellsOf 31 = 2 from by kernel_rfl, List.getElem?_eq_getElem (show 2 < xs.length by omega)] at h2
  obtain ⟨f2, r2⟩ := opens_Mem H enc w base spare held n _ _ h2
  have h3 : DataW.trod enc Tryz.prog w base spare held n 33 ((cs.drop 4).take (Tryz.prog.cellsOf 33)) = xs[3]? := hf 3 _ rfl
  rw [show Tryz.prog.cellsOf 33 = 2 from by kernel_rfl, List.getElem?_eq_getElem (show 3 < xs.length by omega)] at h3
  obtain ⟨f3, r3⟩ := opens_Shelf H enc w base spare held n _ _ h3
  have h4 : DataW.trod enc Tryz.prog w base spare held n 34 ((cs.drop 6).take (Tryz.prog.cellsOf 34)) = xs[4]? := hf 4 _ rfl
  rw [show Tryz.prog.cellsOf 34 = 1 from by kernel_rfl, List.getElem?_eq_getElem (show 4 < xs.length by omega)] at h4
  obtain ⟨f4, A4, n4, c4, e4, g4, g4', -, -, s4⟩ := opens_flat Tryz.underlying34 (by kernel_rfl) (by omega) Hold.cells_length opens_Hold H enc w base spare held n _ _ h4
  have h5 : DataW.trod enc Tryz.prog w base spare held n 35 ((cs.drop 7).take (Tryz.prog.cellsOf 35)) = xs[5]? := hf 5 _ rfl
  rw [show Tryz.prog.cellsOf 35 = 1 from by kernel_rfl, List.getElem?_eq_getElem (show 5 < xs.length by omega)] at h5
  obtain ⟨f5, A5, n5, c5, e5, g5, g5', s5⟩ := opens_deep Root.R_good Tryz.underlying35 (by kernel_rfl) (by omega) opens_Root H enc w base spare held n _ _ h5
  have h6 : DataW.trod enc Tryz.prog w base spare held n 36 ((cs.drop 8).take (Tryz.prog.cellsOf 36)) = xs[6]? := hf 6 _ rfl
  rw [show Tryz.prog.cellsOf 36 = 1 from by kernel_rfl, List.getElem?_eq_getElem (show 6 < xs.length by omega)] at h6
  obtain ⟨f6, A6, n6, c6, e6, g6, g6', s6⟩ := opens_deep Wrote.R_good Tryz.underlying36 (by kernel_rfl) (by omega) opens_Wrote H enc w base spare held n _ _ h6
  clear h0 h1 h2 h3 h4 h5 h6 hf h hxl hxl'
  match cs, hlen with
  | [q0, q1, q2, q3, q4, q5, q6, q7, q8], _ =>
    simp only [List.drop_succ_cons, List.drop_zero, List.take_succ_cons, List.take_zero, List.cons.injEq, and_true] at e0 e1 e4 e5 e6
    simp only [List.drop_succ_cons, List.drop_zero, List.take_succ_cons, List.take_zero] at r2 r3
    subst e0
    subst e1
    subst e4
    subst e5
    subst e6
    exact ⟨⟨f0, f1, f2, f3, f4, f5, f6⟩, _, _, _, _, _, _, _, _, _, _, _, rfl, r2, r3, ⟨g4, Nat.le_trans g4 g4', s4⟩, ⟨g5, Nat.le_trans g5 g5', s5⟩, ⟨g6, Nat.le_trans g6 g6', s6⟩⟩
set_option maxRecDepth 8000 in
set_option maxHeartbeats 4000000 in
theorem szGWorld_any (x : GWorld) (cs : List Value) (q : Int) (w : World) (S : Nat → Prop) (h : GWorld.R w S cs x) (hq0 : 0 ≤ q) (hq2 : q ≤ 1048576) :
    Calls Tryz.prog 5 #[.agg cs.toArray, .int .i64 q] w fun e w' => ∃ r : Int, e = .returned (.int .i64 r) ∧ Left r q (GWorld.wt x) ∧ Ext w w' := by
  obtain ⟨v0, v1, A2, n2, c2, A3, n3, c3, A4, n4, c4, rfl, h0, h1, ⟨kh2, mh2, h2⟩, ⟨kh3, mh3, h3⟩, ⟨kh4, mh4, h4⟩⟩ := h
  obtain ⟨A0, n0, c0, rfl⟩ := Mem.R_cells h0
  obtain ⟨A1, n1, c1, rfl⟩ := Shelf.R_cells h1
  have H0 := Lib.hid h0
  have H1 := Lib.hid h1
  have H2 := Lib.hid h2
  have H3 := Lib.hid h3
  have H4 := Lib.hid h4
  clear h0 h1 h2 h3 h4
  simp only [List.cons_append, List.nil_append]
  go_enter Tryz.func5, Tryz.ntmps5
  go_wp2_with fail
  refine (szMem_any x.mem_ _ (q) _ S (Mem.R_good.ext H0.out (((Ext.refl' w).al _))) hq0 hq2).mono ?_
  rintro e w1 ⟨r0, rfl, Q0, x1⟩
  replace Q0 := Lib.hid Q0
  have X1 : Ext w w1 := Ext.tr (((Ext.refl' w).al _)) x1
  have b1 : Hid (Bx w1 w.heap.size 38 #[.int .i64 x.now_, .int .i64 x.token_, .int .i64 x.mem_.clock_, .slice A0 n0 c0, .slice A1 n1 c1, .int .i64 x.shelf_.count_, .slice A2 n2 c2, .slice A3 n3 c3, .slice A4 n4 c4]) := Bx.ext (Bx.new' _ _ _ rfl) x1
  clear x1
  have R0 : Hid (Left r0 q (Mem.wt x.mem_)) := Q0
  by_cases g0 : 0 ≤ r0
  rotate_left
  · have e0 : r0 = -1 := by have a := R0.out; unfold Left at a; omega
    subst e0
    clear g0
    go_wp2
    go_ret
    exact ⟨-1, rfl, by have a := R0.out; unfold Left GWorld.wt at *; omega, X1⟩
  have u0 : r0 ≤ 1048576 := by have a := R0.out; unfold Left at a; omega
  have ca1_4 : w1.cell? ⟨w.heap.size, 4, none⟩ = some (.slice A1 n1 c1) := b1.out.cell 4
  have ca1_5 : w1.cell? ⟨w.heap.size, 5, none⟩ = some (.int .i64 x.shelf_.count_) := b1.out.cell 5
  go_wp2_with fail
  refine (szShelf_any x.shelf_ _ (r0) _ S (Shelf.R_good.ext H1.out (X1)) g0 u0).mono ?_
  rintro e w2 ⟨r1, rfl, Q1, x2⟩
  replace Q1 := Lib.hid Q1
  have X2 : Ext w w2 := Ext.tr (X1) x2
  have b2 : Hid (Bx w2 w.heap.size 38 #[.int .i64 x.now_, .int .i64 x.token_, .int .i64 x.mem_.clock_, .slice A0 n0 c0, .slice A1 n1 c1, .int .i64 x.shelf_.count_, .slice A2 n2 c2, .slice A3 n3 c3, .slice A4 n4 c4]) := Bx.ext (b1.out) x2
  clear x2
  have R1 : Hid (Left r1 q (Mem.wt x.mem_ + Shelf.wt x.shelf_)) := by show Left _ _ _; have a := R0.out; have b := Q1.out; unfold Left at *; omega
  by_cases g1 : 0 ≤ r1
  rotate_left
  · have e1 : r1 = -1 := by have a := R1.out; unfold Left at a; omega
    subst e1
    clear g1
    go_wp2
    go_ret
    exact ⟨-1, rfl, by have a := R1.out; unfold Left GWorld.wt at *; omega, X2⟩
  have u1 : r1 ≤ 1048576 := by have a := R1.out; unfold Left at a; omega
  have ca2_6 : w2.cell? ⟨w.heap.size, 6, none⟩ = some (.slice A2 n2 c2) := b2.out.cell 6
  go_wp2_with fail
  have L2 := Lib.hid (H2.out.flen Hold.cells_length (by omega))
  refine (szHoldS_any _ _ _ (r1) _ g1 u1 mh2).mono ?_
  rintro e w3 ⟨rfl, xq⟩
  have x3 := Ext.of_eq xq
  clear xq
  have Q2 : Hid (Left (if (n2 : Int) ≤ r1 then r1 - n2 else -1) r1 (x.holds_.length)) := by show Left _ _ _; rw [L2.out]; exact Left.of_if
  generalize (if (n2 : Int) ≤ r1 then r1 - n2 else -1) = r2 at Q2
  have X3 : Ext w w3 := Ext.tr (X2) x3
  have b3 : Hid (Bx w3 w.heap.size 38 #[.int .i64 x.now_, .int .i64 x.token_, .int .i64 x.mem_.clock_, .slice A0 n0 c0, .slice A1 n1 c1, .int .i64 x.shelf_.count_, .slice A2 n2 c2, .slice A3 n3 c3, .slice A4 n4 c4]) := Bx.ext (b2.out) x3
  clear x3
  have R2 : Hid (Left r2 q (Mem.wt x.mem_ + Shelf.wt x.shelf_ + x.holds_.length)) := by show Left _ _ _; have a := R1.out; have b := Q2.out; unfold Left at *; omega
  by_cases g2 : 0 ≤ r2
  rotate_left
  · have e2 : r2 = -1 := by have a := R2.out; unfold Left at a; omega
    subst e2
    clear g2
    go_wp2
    go_ret
    exact ⟨-1, rfl, by have a := R2.out; unfold Left GWorld.wt at *; omega, X3⟩
  have u2 : r2 ≤ 1048576 := by have a := R2.out; unfold Left at a; omega
  have ca3_7 : w3.cell? ⟨w.heap.size, 7, none⟩ = some (.slice A3 n3 c3) := b3.out.cell 7
  go_wp2_with fail
  refine (szRootS_any _ _ _ x.roots_ (r2) _ S (SlR.ext Root.R_good H3.out (X3)) mh3 g2 u2).mono ?_
  rintro e w4 ⟨r3, rfl, Q3, x4⟩
  replace Q3 := Lib.hid Q3
  have X4 : Ext w w4 := Ext.tr (X3) x4
  have b4 : Hid (Bx w4 w.heap.size 38 #[.int .i64 x.now_, .int .i64 x.token_, .int .i64 x.mem_.clock_, .slice A0 n0 c0, .slice A1 n1 c1, .int .i64 x.shelf_.count_, .slice A2 n2 c2, .slice A3 n3 c3, .slice A4 n4 c4]) := Bx.ext (b3.out) x4
  clear x4
  have R3 : Hid (Left r3 q (Mem.wt x.mem_ + Shelf.wt x.shelf_ + x.holds_.length + wtl Root.wt x.roots_)) := by show Left _ _ _; have a := R2.out; have b := Q3.out; unfold Left at *; omega
  by_cases g3 : 0 ≤ r3
  rotate_left
  · have e3 : r3 = -1 := by have a := R3.out; unfold Left at a; omega
    subst e3
    clear g3
    go_wp2
    go_ret
    exact ⟨-1, rfl, by have a := R3.out; unfold Left GWorld.wt at *; omega, X4⟩
  have u3 : r3 ≤ 1048576 := by have a := R3.out; unfold Left at a; omega
  have ca4_8 : w4.cell? ⟨w.heap.size, 8, none⟩ = some (.slice A4 n4 c4) := b4.out.cell 8
  go_wp2_with fail
  refine (szWroteS_any _ _ _ x.hist_ (r3) _ S (SlR.ext Wrote.R_good H4.out (X4)) mh4 g3 u3).mono ?_
  rintro e w5 ⟨r4, rfl, Q4, x5⟩
  replace Q4 := Lib.hid Q4
  have X5 : Ext w w5 := Ext.tr (X4) x5
  have b5 : Hid (Bx w5 w.heap.size 38 #[.int .i64 x.now_, .int .i64 x.token_, .int .i64 x.mem_.clock_, .slice A0 n0 c0, .slice A1 n1 c1, .int .i64 x.shelf_.count_, .slice A2 n2 c2, .slice A3 n3 c3, .slice A4 n4 c4]) := Bx.ext (b4.out) x5
  clear x5
  have R4 : Hid (Left r4 q (Mem.wt x.mem_ + Shelf.wt x.shelf_ + x.holds_.length + wtl Root.wt x.roots_ + wtl Wrote.wt x.hist_)) := by show Left _ _ _; have a := R3.out; have b := Q4.out; unfold Left at *; omega
  by_cases g4 : 0 ≤ r4
  rotate_left
  · have e4 : r4 = -1 := by have a := R4.out; unfold Left at a; omega
    subst e4
    clear g4
    go_wp2
    go_ret
    exact ⟨-1, rfl, by have a := R4.out; unfold Left GWorld.wt at *; omega, X5⟩
  have u4 : r4 ≤ 1048576 := by have a := R4.out; unfold Left at a; omega
  go_wp2
  go_ret
  exact ⟨r4, rfl, R4.out, X5⟩
set_option maxRecDepth 8000 in
set_option maxHeartbeats 8000000 in
theorem toGWorld_any (x : GWorld) (cs : List Value) (w : World) (S : Nat → Prop) (h : GWorld.R w S cs x) (hw : GWorld.wt x ≤ 1048576) :
    Calls Tryz.prog 8 #[.agg cs.toArray] w fun e w' => ∃ cs', e = .returned (.agg cs'.toArray) ∧ GWorld.W w' (fun g => w.heap.size ≤ g ∧ g < w'.heap.size) cs' x ∧ Ext w w' := by
  obtain ⟨v0, v1, A2, n2, c2, A3, n3, c3, A4, n4, c4, rfl, h0, h1, ⟨kh2, mh2, h2⟩, ⟨kh3, mh3, h3⟩, ⟨kh4, mh4, h4⟩⟩ := h
  obtain ⟨A0, n0, c0, rfl⟩ := Mem.R_cells h0
  obtain ⟨A1, n1, c1, rfl⟩ := Shelf.R_cells h1
  unfold GWorld.wt at hw
  have W_0 : Mem.wt x.mem_ ≤ 1048576 := by omega
  have W_1 : Shelf.wt x.shelf_ ≤ 1048576 := by omega
  have l2 := h2.flen Hold.cells_length (by omega)
  have n_2 : n2 ≤ 1048576 := by omega
  have l3 := h3.1
  have t3 := wtl_len Root.wt x.roots_
  have n_3 : n3 ≤ 1048576 := by omega
  have W_3 : wtl Root.wt x.roots_ ≤ 1048576 := by omega
  have l4 := h4.1
  have t4 := wtl_len Wrote.wt x.hist_
  have n_4 : n4 ≤ 1048576 := by omega
  have W_4 : wtl Wrote.wt x.hist_ ≤ 1048576 := by omega
  have H0 := Lib.hid h0
  have H1 := Lib.hid h1
  have H2 := Lib.hid h2
  have H3 := Lib.hid h3
  have H4 := Lib.hid h4
  clear h0 h1 h2 h3 h4 hw l2 l3 l4 t3 t4
  simp only [List.cons_append, List.nil_append]
  go_enter Tryz.func8, Tryz.ntmps8
  go_wp2_with fail
  refine (toMem_any x.mem_ _ _ S (Mem.R_good.ext H0.out ((((Ext.refl' w).al _).al _).al _)) W_0).mono ?_
  rintro e w1 ⟨cv, rfl, o0, x1⟩
  replace o0 := Lib.hid o0
  obtain ⟨B0, p0, d0, rfl⟩ := Mem.W_cells o0.out
  have z1 : w.heap.size + 3 ≤ w1.heap.size := by have h := x1.size; (try simp at h); omega
  have ba1 : Hid (Bx w1 (w.heap.size) 38 #[.int .i64 x.now_, .int .i64 x.token_, .int .i64 x.mem_.clock_, .slice A0 n0 c0, .slice A1 n1 c1, .int .i64 x.shelf_.count_, .slice A2 n2 c2, .slice A3 n3 c3, .slice A4 n4 c4]) := Bx.ext (((Bx.new' _ _ _ rfl).al _).al _) x1
  have br1 : Hid (Bx w1 (w.heap.size + 1) 56 #[.int .i64 0, .int .i64 0, .int .i64 0, .slice none 0 0, .slice none 0 0, .int .i64 0, .slice none 0 0, .slice none 0 0, .slice none 0 0]) := Bx.ext ((Bx.new' _ _ _ (by simp)).al _) x1
  have bo1 : Hid (Bx w1 (w.heap.size + 2) 56 #[.int .i64 x.now_, .int .i64 x.token_, .int .i64 0, .slice none 0 0, .slice none 0 0, .int .i64 0, .slice none 0 0, .slice none 0 0, .slice none 0 0]) := Bx.ext (Bx.new' _ _ _ (by simp)) x1
  have X1 : Ext w w1 := Ext.tr ((((Ext.refl' w).al _).al _).al _) x1
  replace o0 : Hid (Mem.W w1 (fun g => w.heap.size + 3 ≤ g ∧ g < w1.heap.size) _ x.mem_) := Mem.W_good.mono o0.out (fun g hg => by have h1 := hg.1; have h2 := hg.2; constructor <;> (try simp at h1) <;> omega)
  clear x1
  have ca1_4 : w1.cell? ⟨w.heap.size, 4, none⟩ = some (.slice A1 n1 c1) := ba1.out.cell 4
  have ca1_5 : w1.cell? ⟨w.heap.size, 5, none⟩ = some (.int .i64 x.shelf_.count_) := ba1.out.cell 5
  have co1_2 : w1.cell? ⟨w.heap.size + 2, 2, none⟩ = some (.int .i64 0) := bo1.out.cell 2
  have co1_3 : w1.cell? ⟨w.heap.size + 2, 3, none⟩ = some (.slice none 0 0) := bo1.out.cell 3
  have fo1_2 : w1.frozen? ⟨w.heap.size + 2, 2, none⟩ = false := bo1.out.frozen 2
  have fo1_3 : w1.frozen? ⟨w.heap.size + 2, 3, none⟩ = false := bo1.out.frozen 3
  go_wp2_with fail
  refine (toShelf_any x.shelf_ _ _ S (Shelf.R_good.ext H1.out (((X1).sc (by first | (simp; done) | (simp; omega)) _).sc (by first | (simp; done) | (simp; omega)) _)) W_1).mono ?_
  rintro e w2 ⟨cv, rfl, o1, x2⟩
  replace o1 := Lib.hid o1
  obtain ⟨B1, p1, d1, rfl⟩ := Shelf.W_cells o1.out
  have z2 : w.heap.size + 3 ≤ w2.heap.size := by have h := x2.size; (try simp at h); omega
  have y2 : w1.heap.size ≤ w2.heap.size := by have h := x2.size; (try simp at h); exact h
  have ba2 : Hid (Bx w2 (w.heap.size) 38 #[.int .i64 x.now_, .int .i64 x.token_, .int .i64 x.mem_.clock_, .slice A0 n0 c0, .slice A1 n1 c1, .int .i64 x.shelf_.count_, .slice A2 n2 c2, .slice A3 n3 c3, .slice A4 n4 c4]) := Bx.ext (((ba1.out).far (by first | (simp; done) | (simp; omega)) _).far (by first | (simp; done) | (simp; omega)) _) x2
  have br2 : Hid (Bx w2 (w.heap.size + 1) 56 #[.int .i64 0, .int .i64 0, .int .i64 0, .slice none 0 0, .slice none 0 0, .int .i64 0, .slice none 0 0, .slice none 0 0, .slice none 0 0]) := Bx.ext (((br1.out).far (by first | (simp; done) | (simp; omega)) _).far (by first | (simp; done) | (simp; omega)) _) x2
  have bo2 : Hid (Bx w2 (w.heap.size + 2) 56 #[.int .i64 x.now_, .int .i64 x.token_, .int .i64 x.mem_.clock_, .slice B0 p0 d0, .slice none 0 0, .int .i64 0, .slice none 0 0, .slice none 0 0, .slice none 0 0]) := Bx.ext ((((bo1.out).set_ _ _).set_ _ _).cast (by first | rfl | simp only [List.setIfInBounds_toArray, List.set_cons_succ, List.set_cons_zero])) x2
  have X2 : Ext w w2 := Ext.tr (((X1).sc (by first | (simp; done) | (simp; omega)) _).sc (by first | (simp; done) | (simp; omega)) _) x2
  replace o0 := Lib.hid (Mem.W_good.chg o0.out (Chg.trans (((Chg.refl (fun g => g = w.heap.size + 2) _).sc rfl _).sc rfl _) (x2.chg _)) (fun g hg q => by have h1 := hg.1; have hq3 : g = w.heap.size + 2 := q; omega))
  replace o1 : Hid (Shelf.W w2 (fun g => w1.heap.size ≤ g ∧ g < w2.heap.size) _ x.shelf_) := Shelf.W_good.mono o1.out (fun g hg => by have h1 := hg.1; have h2 := hg.2; constructor <;> (try simp at h1) <;> omega)
  clear x2
  have ca2_6 : w2.cell? ⟨w.heap.size, 6, none⟩ = some (.slice A2 n2 c2) := ba2.out.cell 6
  have co2_4 : w2.cell? ⟨w.heap.size + 2, 4, none⟩ = some (.slice none 0 0) := bo2.out.cell 4
  have co2_5 : w2.cell? ⟨w.heap.size + 2, 5, none⟩ = some (.int .i64 0) := bo2.out.cell 5
  have fo2_4 : w2.frozen? ⟨w.heap.size + 2, 4, none⟩ = false := bo2.out.frozen 4
  have fo2_5 : w2.frozen? ⟨w.heap.size + 2, 5, none⟩ = false := bo2.out.frozen 5
  go_wp2_with fail
  refine (toHoldS_any _ _ _ _ _ S (H2.out.ext (((X2).sc (by first | (simp; done) | (simp; omega)) _).sc (by first | (simp; done) | (simp; omega)) _)) n_2).mono ?_
  rintro e w3 ⟨B2, d2, rfl, o2, x3⟩
  have K2 : Hid (n2 ≤ d2) := own_cap o2
  replace o2 := Lib.hid (OwS.of_own o2)
  have z3 : w.heap.size + 3 ≤ w3.heap.size := by have h := x3.size; (try simp at h); omega
  have y3 : w2.heap.size ≤ w3.heap.size := by have h := x3.size; (try simp at h); exact h
  have ba3 : Hid (Bx w3 (w.heap.size) 38 #[.int .i64 x.now_, .int .i64 x.token_, .int .i64 x.mem_.clock_, .slice A0 n0 c0, .slice A1 n1 c1, .int .i64 x.shelf_.count_, .slice A2 n2 c2, .slice A3 n3 c3, .slice A4 n4 c4]) := Bx.ext (((ba2.out).far (by first | (simp; done) | (simp; omega)) _).far (by first | (simp; done) | (simp; omega)) _) x3
  have br3 : Hid (Bx w3 (w.heap.size + 1) 56 #[.int .i64 0, .int .i64 0, .int .i64 0, .slice none 0 0, .slice none 0 0, .int .i64 0, .slice none 0 0, .slice none 0 0, .slice none 0 0]) := Bx.ext (((br2.out).far (by first | (simp; done) | (simp; omega)) _).far (by first | (simp; done) | (simp; omega)) _) x3
  have bo3 : Hid (Bx w3 (w.heap.size + 2) 56 #[.int .i64 x.now_, .int .i64 x.token_, .int .i64 x.mem_.clock_, .slice B0 p0 d0, .slice B1 p1 d1, .int .i64 x.shelf_.count_, .slice none 0 0, .slice none 0 0, .slice none 0 0]) := Bx.ext ((((bo2.out).set_ _ _).set_ _ _).cast (by first | rfl | simp only [List.setIfInBounds_toArray, List.set_cons_succ, List.set_cons_zero])) x3
  have X3 : Ext w w3 := Ext.tr (((X2).sc (by first | (simp; done) | (simp; omega)) _).sc (by first | (simp; done) | (simp; omega)) _) x3
  replace o0 := Lib.hid (Mem.W_good.chg o0.out (Chg.trans (((Chg.refl (fun g => g = w.heap.size + 2) _).sc rfl _).sc rfl _) (x3.chg _)) (fun g hg q => by have h1 := hg.1; have hq3 : g = w.heap.size + 2 := q; omega))
  replace o1 := Lib.hid (Shelf.W_good.chg o1.out (Chg.trans (((Chg.refl (fun g => g = w.heap.size + 2) _).sc rfl _).sc rfl _) (x3.chg _)) (fun g hg q => by have h1 := hg.1; have hq3 : g = w.heap.size + 2 := q; omega))
  replace o2 : Hid (OwS w3 (fun g => w2.heap.size ≤ g ∧ g < w3.heap.size) 153 3 B2 n2 d2 (x.holds_.flatMap Hold.cells)) := o2.out.mono (fun g _ hg => by have h1 := hg.1; have h2 := hg.2; constructor <;> (try simp at h1) <;> omega)
  clear x3
  have ca3_7 : w3.cell? ⟨w.heap.size, 7, none⟩ = some (.slice A3 n3 c3) := ba3.out.cell 7
  have co3_6 : w3.cell? ⟨w.heap.size + 2, 6, none⟩ = some (.slice none 0 0) := bo3.out.cell 6
  have fo3_6 : w3.frozen? ⟨w.heap.size + 2, 6, none⟩ = false := bo3.out.frozen 6
  go_wp2_with fail
  refine (toRootS_any _ _ _ x.roots_ _ S (SlR.ext Root.R_good H3.out ((X3).sc (by first | (simp; done) | (simp; omega)) _)) n_3 W_3).mono ?_
  rintro e w4 ⟨B3, d3, rfl, o3, x4⟩
  replace o3 := Lib.hid o3
  have z4 : w.heap.size + 3 ≤ w4.heap.size := by have h := x4.size; (try simp at h); omega
  have y4 : w3.heap.size ≤ w4.heap.size := by have h := x4.size; (try simp at h); exact h
  have ba4 : Hid (Bx w4 (w.heap.size) 38 #[.int .i64 x.now_, .int .i64 x.token_, .int .i64 x.mem_.clock_, .slice A0 n0 c0, .slice A1 n1 c1, .int .i64 x.shelf_.count_, .slice A2 n2 c2, .slice A3 n3 c3, .slice A4 n4 c4]) := Bx.ext ((ba3.out).far (by first | (simp; done) | (simp; omega)) _) x4
  have br4 : Hid (Bx w4 (w.heap.size + 1) 56 #[.int .i64 0, .int .i64 0, .int .i64 0, .slice none 0 0, .slice none 0 0, .int .i64 0, .slice none 0 0, .slice none 0 0, .slice none 0 0]) := Bx.ext ((br3.out).far (by first | (simp; done) | (simp; omega)) _) x4
  have bo4 : Hid (Bx w4 (w.heap.size + 2) 56 #[.int .i64 x.now_, .int .i64 x.token_, .int .i64 x.mem_.clock_, .slice B0 p0 d0, .slice B1 p1 d1, .int .i64 x.shelf_.count_, .slice B2 n2 d2, .slice none 0 0, .slice none 0 0]) := Bx.ext (((bo3.out).set_ _ _).cast (by first | rfl | simp only [List.setIfInBounds_toArray, List.set_cons_succ, List.set_cons_zero])) x4
  have X4 : Ext w w4 := Ext.tr ((X3).sc (by first | (simp; done) | (simp; omega)) _) x4
  replace o0 := Lib.hid (Mem.W_good.chg o0.out (Chg.trans ((Chg.refl (fun g => g = w.heap.size + 2) _).sc rfl _) (x4.chg _)) (fun g hg q => by have h1 := hg.1; have hq3 : g = w.heap.size + 2 := q; omega))
  replace o1 := Lib.hid (Shelf.W_good.chg o1.out (Chg.trans ((Chg.refl (fun g => g = w.heap.size + 2) _).sc rfl _) (x4.chg _)) (fun g hg q => by have h1 := hg.1; have hq3 : g = w.heap.size + 2 := q; omega))
  replace o2 := Lib.hid (o2.out.chg (Chg.trans ((Chg.refl (fun g => g = w.heap.size + 2) _).sc rfl _) (x4.chg _)) (fun g hg q => by have h1 := hg.1; have hq3 : g = w.heap.size + 2 := q; omega))
  replace o3 : Hid (SlW Root.W 83 40 w4 (fun g => w3.heap.size ≤ g ∧ g < w4.heap.size) B3 n3 d3 x.roots_) := o3.out.mono Root.W_good (fun g hg => by have h1 := hg.1; have h2 := hg.2; constructor <;> (try simp at h1) <;> omega)
  clear x4
  have ca4_8 : w4.cell? ⟨w.heap.size, 8, none⟩ = some (.slice A4 n4 c4) := ba4.out.cell 8
  have co4_7 : w4.cell? ⟨w.heap.size + 2, 7, none⟩ = some (.slice none 0 0) := bo4.out.cell 7
  have fo4_7 : w4.frozen? ⟨w.heap.size + 2, 7, none⟩ = false := bo4.out.frozen 7
  go_wp2_with fail
  refine (toWroteS_any _ _ _ x.hist_ _ S (SlR.ext Wrote.R_good H4.out ((X4).sc (by first | (simp; done) | (simp; omega)) _)) n_4 W_4).mono ?_
  rintro e w5 ⟨B4, d4, rfl, o4, x5⟩
  replace o4 := Lib.hid o4
  have z5 : w.heap.size + 3 ≤ w5.heap.size := by have h := x5.size; (try simp at h); omega
  have y5 : w4.heap.size ≤ w5.heap.size := by have h := x5.size; (try simp at h); exact h
  have ba5 : Hid (Bx w5 (w.heap.size) 38 #[.int .i64 x.now_, .int .i64 x.token_, .int .i64 x.mem_.clock_, .slice A0 n0 c0, .slice A1 n1 c1, .int .i64 x.shelf_.count_, .slice A2 n2 c2, .slice A3 n3 c3, .slice A4 n4 c4]) := Bx.ext ((ba4.out).far (by first | (simp; done) | (simp; omega)) _) x5
  have br5 : Hid (Bx w5 (w.heap.size + 1) 56 #[.int .i64 0, .int .i64 0, .int .i64 0, .slice none 0 0, .slice none 0 0, .int .i64 0, .slice none 0 0, .slice none 0 0, .slice none 0 0]) := Bx.ext ((br4.out).far (by first | (simp; done) | (simp; omega)) _) x5
  have bo5 : Hid (Bx w5 (w.heap.size + 2) 56 #[.int .i64 x.now_, .int .i64 x.token_, .int .i64 x.mem_.clock_, .slice B0 p0 d0, .slice B1 p1 d1, .int .i64 x.shelf_.count_, .slice B2 n2 d2, .slice B3 n3 d3, .slice none 0 0]) := Bx.ext (((bo4.out).set_ _ _).cast (by first | rfl | simp only [List.setIfInBounds_toArray, List.set_cons_succ, List.set_cons_zero])) x5
  have X5 : Ext w w5 := Ext.tr ((X4).sc (by first | (simp; done) | (simp; omega)) _) x5
  replace o0 := Lib.hid (Mem.W_good.chg o0.out (Chg.trans ((Chg.refl (fun g => g = w.heap.size + 2) _).sc rfl _) (x5.chg _)) (fun g hg q => by have h1 := hg.1; have hq3 : g = w.heap.size + 2 := q; omega))
  replace o1 := Lib.hid (Shelf.W_good.chg o1.out (Chg.trans ((Chg.refl (fun g => g = w.heap.size + 2) _).sc rfl _) (x5.chg _)) (fun g hg q => by have h1 := hg.1; have hq3 : g = w.heap.size + 2 := q; omega))
  replace o2 := Lib.hid (o2.out.chg (Chg.trans ((Chg.refl (fun g => g = w.heap.size + 2) _).sc rfl _) (x5.chg _)) (fun g hg q => by have h1 := hg.1; have hq3 : g = w.heap.size + 2 := q; omega))
  replace o3 := Lib.hid (o3.out.chg Root.W_good (Chg.trans ((Chg.refl (fun g => g = w.heap.size + 2) _).sc rfl _) (x5.chg _)) (fun g hg q => by have h1 := hg.1; have hq3 : g = w.heap.size + 2 := q; omega))
  replace o4 : Hid (SlW Wrote.W 132 3 w5 (fun g => w4.heap.size ≤ g ∧ g < w5.heap.size) B4 n4 d4 x.hist_) := o4.out.mono Wrote.W_good (fun g hg => by have h1 := hg.1; have h2 := hg.2; constructor <;> (try simp at h1) <;> omega)
  clear x5
  have co5_0 : w5.cell? ⟨w.heap.size + 2, 0, none⟩ = some (.int .i64 x.now_) := bo5.out.cell 0
  have co5_1 : w5.cell? ⟨w.heap.size + 2, 1, none⟩ = some (.int .i64 x.token_) := bo5.out.cell 1
  have co5_2 : w5.cell? ⟨w.heap.size + 2, 2, none⟩ = some (.int .i64 x.mem_.clock_) := bo5.out.cell 2
  have co5_3 : w5.cell? ⟨w.heap.size + 2, 3, none⟩ = some (.slice B0 p0 d0) := bo5.out.cell 3
  have co5_4 : w5.cell? ⟨w.heap.size + 2, 4, none⟩ = some (.slice B1 p1 d1) := bo5.out.cell 4
  have co5_5 : w5.cell? ⟨w.heap.size + 2, 5, none⟩ = some (.int .i64 x.shelf_.count_) := bo5.out.cell 5
  have co5_6 : w5.cell? ⟨w.heap.size + 2, 6, none⟩ = some (.slice B2 n2 d2) := bo5.out.cell 6
  have co5_7 : w5.cell? ⟨w.heap.size + 2, 7, none⟩ = some (.slice B3 n3 d3) := bo5.out.cell 7
  have co5_8 : w5.cell? ⟨w.heap.size + 2, 8, none⟩ = some (.slice none 0 0) := bo5.out.cell 8
  have fo5_8 : w5.frozen? ⟨w.heap.size + 2, 8, none⟩ = false := bo5.out.frozen 8
  have cr5_0 : w5.cell? ⟨w.heap.size + 1, 0, none⟩ = some (.int .i64 0) := br5.out.cell 0
  have fr5_0 : w5.frozen? ⟨w.heap.size + 1, 0, none⟩ = false := br5.out.frozen 0
  have cr5_1 : w5.cell? ⟨w.heap.size + 1, 1, none⟩ = some (.int .i64 0) := br5.out.cell 1
  have fr5_1 : w5.frozen? ⟨w.heap.size + 1, 1, none⟩ = false := br5.out.frozen 1
  have cr5_2 : w5.cell? ⟨w.heap.size + 1, 2, none⟩ = some (.int .i64 0) := br5.out.cell 2
  have fr5_2 : w5.frozen? ⟨w.heap.size + 1, 2, none⟩ = false := br5.out.frozen 2
  have cr5_3 : w5.cell? ⟨w.heap.size + 1, 3, none⟩ = some (.slice none 0 0) := br5.out.cell 3
  have fr5_3 : w5.frozen? ⟨w.heap.size + 1, 3, none⟩ = false := br5.out.frozen 3
  have cr5_4 : w5.cell? ⟨w.heap.size + 1, 4, none⟩ = some (.slice none 0 0) := br5.out.cell 4
  have fr5_4 : w5.frozen? ⟨w.heap.size + 1, 4, none⟩ = false := br5.out.frozen 4
  have cr5_5 : w5.cell? ⟨w.heap.size + 1, 5, none⟩ = some (.int .i64 0) := br5.out.cell 5
  have fr5_5 : w5.frozen? ⟨w.heap.size + 1, 5, none⟩ = false := br5.out.frozen 5
  have cr5_6 : w5.cell? ⟨w.heap.size + 1, 6, none⟩ = some (.slice none 0 0) := br5.out.cell 6
  have fr5_6 : w5.frozen? ⟨w.heap.size + 1, 6, none⟩ = false := br5.out.frozen 6
  have cr5_7 : w5.cell? ⟨w.heap.size + 1, 7, none⟩ = some (.slice none 0 0) := br5.out.cell 7
  have fr5_7 : w5.frozen? ⟨w.heap.size + 1, 7, none⟩ = false := br5.out.frozen 7
  have cr5_8 : w5.cell? ⟨w.heap.size + 1, 8, none⟩ = some (.slice none 0 0) := br5.out.cell 8
  have fr5_8 : w5.frozen? ⟨w.heap.size + 1, 8, none⟩ = false := br5.out.frozen 8
  go_wp2
  refine bodyPost_ret (v := .agg #[.int .i64 x.now_, .int .i64 x.token_, .int .i64 x.mem_.clock_, .slice B0 p0 d0, .slice B1 p1 d1, .int .i64 x.shelf_.count_, .slice B2 n2 d2, .slice B3 n3 d3, .slice B4 n4 d4]) (by simp [results, Tryz.results8, go_sem, cr5_0, cr5_1, cr5_2, cr5_3, cr5_4, cr5_5, cr5_6, cr5_7, cr5_8]) rfl ⟨[.int .i64 x.now_, .int .i64 x.token_, .int .i64 x.mem_.clock_, .slice B0 p0 d0, .slice B1 p1 d1, .int .i64 x.shelf_.count_, .slice B2 n2 d2, .slice B3 n3 d3, .slice B4 n4 d4], rfl, ?_, ?_⟩
  · refine (?_ : ∀ wz, Chg (fun g => g = w.heap.size + 2 ∨ g = w.heap.size + 1) w5 wz → GWorld.W wz (fun g => w.heap.size ≤ g ∧ g < wz.heap.size) [.int .i64 x.now_, .int .i64 x.token_, .int .i64 x.mem_.clock_, .slice B0 p0 d0, .slice B1 p1 d1, .int .i64 x.shelf_.count_, .slice B2 n2 d2, .slice B3 n3 d3, .slice B4 n4 d4] x) _ (((((((((((Chg.refl (fun g => g = w.heap.size + 2 ∨ g = w.heap.size + 1) _).sc (by first | (simp; done) | (simp; omega)) _).sc (by first | (simp; done) | (simp; omega)) _).sc (by first | (simp; done) | (simp; omega)) _).sc (by first | (simp; done) | (simp; omega)) _).sc (by first | (simp; done) | (simp; omega)) _).sc (by first | (simp; done) | (simp; omega)) _).sc (by first | (simp; done) | (simp; omega)) _).sc (by first | (simp; done) | (simp; omega)) _).sc (by first | (simp; done) | (simp; omega)) _).sc (by first | (simp; done) | (simp; omega)) _)
    intro wz cc
    have zz := cc.size
    exact ⟨[.int .i64 x.mem_.clock_, .slice B0 p0 d0], [.slice B1 p1 d1, .int .i64 x.shelf_.count_], B2, n2, d2, B3, n3, d3, B4, n4, d4, lb [w1.heap.size, w2.heap.size, w3.heap.size, w4.heap.size, w5.heap.size], rfl, Mem.W_good.mono (Mem.W_good.chg o0.out cc (fun g hg q => by have h1 := hg.1; have hq3 : g = w.heap.size + 2 ∨ g = w.heap.size + 1 := q; omega)) (fun g hg => ⟨⟨by have h1 := hg.1; omega, by have h2 := hg.2; omega⟩, by have h1 := hg.1; have h2 := hg.2; exact lb_here (by omega)⟩), Shelf.W_good.mono (Shelf.W_good.chg o1.out cc (fun g hg q => by have h1 := hg.1; have hq3 : g = w.heap.size + 2 ∨ g = w.heap.size + 1 := q; omega)) (fun g hg => ⟨⟨by have h1 := hg.1; omega, by have h2 := hg.2; omega⟩, by have h1 := hg.1; have h2 := hg.2; exact lb_next (by omega) (lb_here (by omega))⟩), ⟨K2.out, mh2, (o2.out.chg cc (fun g hg q => by have h1 := hg.1; have hq3 : g = w.heap.size + 2 ∨ g = w.heap.size + 1 := q; omega)).mono (fun g _ hg => ⟨⟨by have h1 := hg.1; omega, by have h2 := hg.2; omega⟩, by have h1 := hg.1; have h2 := hg.2; exact lb_next (by omega) (lb_next (by omega) (lb_here (by omega)))⟩)⟩, ⟨SlW.cap o3.out, mh3, (o3.out.chg Root.W_good cc (fun g hg q => by have h1 := hg.1; have hq3 : g = w.heap.size + 2 ∨ g = w.heap.size + 1 := q; omega)).mono Root.W_good (fun g hg => ⟨⟨by have h1 := hg.1; omega, by have h2 := hg.2; omega⟩, by have h1 := hg.1; have h2 := hg.2; exact lb_next (by omega) (lb_next (by omega) (lb_next (by omega) (lb_here (by omega))))⟩)⟩, ⟨SlW.cap o4.out, mh4, (o4.out.chg Wrote.W_good cc (fun g hg q => by have h1 := hg.1; have hq3 : g = w.heap.size + 2 ∨ g = w.heap.size + 1 := q; omega)).mono Wrote.W_good (fun g hg => ⟨⟨by have h1 := hg.1; omega, by have h2 := hg.2; omega⟩, by have h1 := hg.1; have h2 := hg.2; exact lb_next (by omega) (lb_next (by omega) (lb_next (by omega) (lb_next (by omega) (lb_here (by omega)))))⟩)⟩⟩
  · exact ((((((((((X5).sc (by first | (simp; done) | (simp; omega)) _).sc (by first | (simp; done) | (simp; omega)) _).sc (by first | (simp; done) | (simp; omega)) _).sc (by first | (simp; done) | (simp; omega)) _).sc (by first | (simp; done) | (simp; omega)) _).sc (by first | (simp; done) | (simp; omega)) _).sc (by first | (simp; done) | (simp; omega)) _).sc (by first | (simp; done) | (simp; omega)) _).sc (by first | (simp; done) | (simp; omega)) _).sc (by first | (simp; done) | (simp; omega)) _
set_option maxRecDepth 8000 in
set_option maxHeartbeats 8000000 in
theorem eqGWorld_same (x : GWorld) (cs cs' : List Value) (w : World) (S S' : Nat → Prop) (h : GWorld.R w S cs x) (u : GWorld.R w S' cs' x) :
    Calls Tryz.prog 11 #[.agg cs.toArray, .agg cs'.toArray] w fun e w' => e = .returned (.bool true) ∧ Ext w w' := by
  obtain ⟨v0, v1, A2, n2, c2, A3, n3, c3, A4, n4, c4, rfl, h0, h1, ⟨kh2, mh2, h2⟩, ⟨kh3, mh3, h3⟩, ⟨kh4, mh4, h4⟩⟩ := h
  obtain ⟨A0, n0, c0, rfl⟩ := Mem.R_cells h0
  obtain ⟨A1, n1, c1, rfl⟩ := Shelf.R_cells h1
  obtain ⟨z0, z1, B2, p2, d2, B3, p3, d3, B4, p4, d4, rfl, u0, u1, ⟨ku2, mu2, u2⟩, ⟨ku3, mu3, u3⟩, ⟨ku4, mu4, u4⟩⟩ := u
  obtain ⟨B0, p0, d0, rfl⟩ := Mem.R_cells u0
  obtain ⟨B1, p1, d1, rfl⟩ := Shelf.R_cells u1
  obtain rfl : n2 = p2 := by have a := h2.flen Hold.cells_length (by omega); have b := u2.flen Hold.cells_length (by omega); omega
  obtain rfl : n3 = p3 := by have a := h3.1; have b := u3.1; omega
  obtain rfl : n4 = p4 := by have a := h4.1; have b := u4.1; omega
  have H0 := Lib.hid h0
  have U0 := Lib.hid u0
  have H1 := Lib.hid h1
  have U1 := Lib.hid u1
  have H2 := Lib.hid h2
  have U2 := Lib.hid u2
  have H3 := Lib.hid h3
  have U3 := Lib.hid u3
  have H4 := Lib.hid h4
  have U4 := Lib.hid u4
  clear h0 u0 h1 u1 h2 u2 h3 u3 h4 u4
  simp only [List.cons_append, List.nil_append]
  go_enter Tryz.func11, Tryz.ntmps11
  go_wp2_with fail
  refine (eqMem_same x.mem_ _ _ _ S S' (Mem.R_good.ext H0.out (((Ext.refl' w).al _).al _)) (Mem.R_good.ext U0.out (((Ext.refl' w).al _).al _))).mono ?_
  rintro e w1 ⟨rfl, x1⟩
  have z1 : w.heap.size + 2 ≤ w1.heap.size := by have h := x1.size; (try simp at h); omega
  have ba1 : Hid (Bx w1 (w.heap.size) 56 #[.int .i64 x.now_, .int .i64 x.token_, .int .i64 x.mem_.clock_, .slice A0 n0 c0, .slice A1 n1 c1, .int .i64 x.shelf_.count_, .slice A2 n2 c2, .slice A3 n3 c3, .slice A4 n4 c4]) := Bx.ext ((Bx.new' _ _ _ rfl).al _) x1
  have bb1 : Hid (Bx w1 (w.heap.size + 1) 56 #[.int .i64 x.now_, .int .i64 x.token_, .int .i64 x.mem_.clock_, .slice B0 p0 d0, .slice B1 p1 d1, .int .i64 x.shelf_.count_, .slice B2 n2 d2, .slice B3 n3 d3, .slice B4 n4 d4]) := Bx.ext (Bx.new' _ _ _ (by simp)) x1
  have X1 : Ext w w1 := Ext.tr (((Ext.refl' w).al _).al _) x1
  clear x1
  have ca1_4 : w1.cell? ⟨w.heap.size, 4, none⟩ = some (.slice A1 n1 c1) := ba1.out.cell 4
  have cb1_4 : w1.cell? ⟨w.heap.size + 1, 4, none⟩ = some (.slice B1 p1 d1) := bb1.out.cell 4
  have ca1_5 : w1.cell? ⟨w.heap.size, 5, none⟩ = some (.int .i64 x.shelf_.count_) := ba1.out.cell 5
  have cb1_5 : w1.cell? ⟨w.heap.size + 1, 5, none⟩ = some (.int .i64 x.shelf_.count_) := bb1.out.cell 5
  go_wp2_with fail
  refine (eqShelf_same x.shelf_ _ _ _ S S' (Shelf.R_good.ext H1.out (X1)) (Shelf.R_good.ext U1.out (X1))).mono ?_
  rintro e w2 ⟨rfl, x2⟩
  have z2 : w.heap.size + 2 ≤ w2.heap.size := by have h := x2.size; (try simp at h); omega
  have ba2 : Hid (Bx w2 (w.heap.size) 56 #[.int .i64 x.now_, .int .i64 x.token_, .int .i64 x.mem_.clock_, .slice A0 n0 c0, .slice A1 n1 c1, .int .i64 x.shelf_.count_, .slice A2 n2 c2, .slice A3 n3 c3, .slice A4 n4 c4]) := Bx.ext (ba1.out) x2
  have bb2 : Hid (Bx w2 (w.heap.size + 1) 56 #[.int .i64 x.now_, .int .i64 x.token_, .int .i64 x.mem_.clock_, .slice B0 p0 d0, .slice B1 p1 d1, .int .i64 x.shelf_.count_, .slice B2 n2 d2, .slice B3 n3 d3, .slice B4 n4 d4]) := Bx.ext (bb1.out) x2
  have X2 : Ext w w2 := Ext.tr (X1) x2
  clear x2
  have ca2_6 : w2.cell? ⟨w.heap.size, 6, none⟩ = some (.slice A2 n2 c2) := ba2.out.cell 6
  have cb2_6 : w2.cell? ⟨w.heap.size + 1, 6, none⟩ = some (.slice B2 n2 d2) := bb2.out.cell 6
  go_wp2_with fail
  refine (eqHoldS_same _ _ _ _ _ _ _ S S' (H2.out.ext (X2)) (U2.out.ext (X2)) mh2).mono ?_
  rintro e w3 ⟨rfl, x3⟩
  have z3 : w.heap.size + 2 ≤ w3.heap.size := by have h := x3.size; (try simp at h); omega
  have ba3 : Hid (Bx w3 (w.heap.size) 56 #[.int .i64 x.now_, .int .i64 x.token_, .int .i64 x.mem_.clock_, .slice A0 n0 c0, .slice A1 n1 c1, .int .i64 x.shelf_.count_, .slice A2 n2 c2, .slice A3 n3 c3, .slice A4 n4 c4]) := Bx.ext (ba2.out) x3
  have bb3 : Hid (Bx w3 (w.heap.size + 1) 56 #[.int .i64 x.now_, .int .i64 x.token_, .int .i64 x.mem_.clock_, .slice B0 p0 d0, .slice B1 p1 d1, .int .i64 x.shelf_.count_, .slice B2 n2 d2, .slice B3 n3 d3, .slice B4 n4 d4]) := Bx.ext (bb2.out) x3
  have X3 : Ext w w3 := Ext.tr (X2) x3
  clear x3
  have ca3_7 : w3.cell? ⟨w.heap.size, 7, none⟩ = some (.slice A3 n3 c3) := ba3.out.cell 7
  have cb3_7 : w3.cell? ⟨w.heap.size + 1, 7, none⟩ = some (.slice B3 n3 d3) := bb3.out.cell 7
  go_wp2_with fail
  refine (eqRootS_same _ _ _ _ _ x.roots_ _ S S' (SlR.ext Root.R_good H3.out (X3)) (SlR.ext Root.R_good U3.out (X3)) mh3).mono ?_
  rintro e w4 ⟨rfl, x4⟩
  have z4 : w.heap.size + 2 ≤ w4.heap.size := by have h := x4.size; (try simp at h); omega
  have ba4 : Hid (Bx w4 (w.heap.size) 56 #[.int .i64 x.now_, .int .i64 x.token_, .int .i64 x.mem_.clock_, .slice A0 n0 c0, .slice A1 n1 c1, .int .i64 x.shelf_.count_, .slice A2 n2 c2, .slice A3 n3 c3, .slice A4 n4 c4]) := Bx.ext (ba3.out) x4
  have bb4 : Hid (Bx w4 (w.heap.size + 1) 56 #[.int .i64 x.now_, .int .i64 x.token_, .int .i64 x.mem_.clock_, .slice B0 p0 d0, .slice B1 p1 d1, .int .i64 x.shelf_.count_, .slice B2 n2 d2, .slice B3 n3 d3, .slice B4 n4 d4]) := Bx.ext (bb3.out) x4
  have X4 : Ext w w4 := Ext.tr (X3) x4
  clear x4
  have ca4_8 : w4.cell? ⟨w.heap.size, 8, none⟩ = some (.slice A4 n4 c4) := ba4.out.cell 8
  have cb4_8 : w4.cell? ⟨w.heap.size + 1, 8, none⟩ = some (.slice B4 n4 d4) := bb4.out.cell 8
  go_wp2_with fail
  refine (eqWroteS_same _ _ _ _ _ x.hist_ _ S S' (SlR.ext Wrote.R_good H4.out (X4)) (SlR.ext Wrote.R_good U4.out (X4)) mh4).mono ?_
  rintro e w5 ⟨rfl, x5⟩
  have z5 : w.heap.size + 2 ≤ w5.heap.size := by have h := x5.size; (try simp at h); omega
  have ba5 : Hid (Bx w5 (w.heap.size) 56 #[.int .i64 x.now_, .int .i64 x.token_, .int .i64 x.mem_.clock_, .slice A0 n0 c0, .slice A1 n1 c1, .int .i64 x.shelf_.count_, .slice A2 n2 c2, .slice A3 n3 c3, .slice A4 n4 c4]) := Bx.ext (ba4.out) x5
  have bb5 : Hid (Bx w5 (w.heap.size + 1) 56 #[.int .i64 x.now_, .int .i64 x.token_, .int .i64 x.mem_.clock_, .slice B0 p0 d0, .slice B1 p1 d1, .int .i64 x.shelf_.count_, .slice B2 n2 d2, .slice B3 n3 d3, .slice B4 n4 d4]) := Bx.ext (bb4.out) x5
  have X5 : Ext w w5 := Ext.tr (X4) x5
  clear x5
  go_wp2
  go_ret
  exact ⟨rfl, X5⟩

end Go.Proofs.YtglplgbhhnmgbaaGreat
