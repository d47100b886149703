/- Marks of a world. No condition but sizes. -/
import Derived.Test.YtfacckjfoajijaaGreatWMarkR
namespace Go.Proofs.YtfacckjfoajijaaGreat
open Go.RowKit Go.Deep
set_option linter.unusedSimpArgs false
set_option linter.unusedVariables false

def Mem.ct (x : Mem) : Nat := 1 + x.cells_.length * 3
def Mem.ca (x : Mem) : Nat := x.cells_.length * 3
set_option maxRecDepth 20000 in
set_option maxHeartbeats 8000000 in
theorem shakeMem_any (x : Mem) (cs : List Value) (q : Int) (w : World) (S : Nat → Prop) (h : Mem.W w S cs x) (hS : ∀ g, S g → g < w.heap.size) (hq : 0 ≤ q) (hqn : q + Mem.ca x ≤ 9007199254740992) :
    Calls Tryz.prog 34 #[.agg cs.toArray, .int .i64 q] w fun e w' => e = .returned (.int .i64 (q + Mem.ca x)) ∧ Chg S w w' := by
  have hca := hqn
  unfold Mem.ca at hca
  obtain ⟨A0, n0, c0, lab, rfl, ⟨kh0, mh0, h0⟩⟩ := h
  obtain rfl : n0 = x.cells_.length := by have a := h0.sl.flen Word.cells_length (by omega); omega
  have H0 := Lib.hid h0
  have HS := Lib.hid hS
  clear hS h0
  show Calls Tryz.prog _ #[.agg #[.int .i64 x.clock_, .slice A0 x.cells_.length c0], .int .i64 q] w _
  go_enter Tryz.func34, Tryz.ntmps34
  go_wp2_with fail
  refine (markWordS_ow _ _ _ x.cells_ _ _ _ (OwS.chg H0.out ((Chg.refl (fun j => S j ∧ lab j < 0) w).al _) (fun i h1 h2 => by have e1 := h1.2; have e2 := h2.2; omega)) (by skip; omega) (by skip; omega)).mono ?_
  rintro e w1 ⟨rfl, -, cq⟩
  have B : Hid (Bx w1 w.heap.size 37 #[.int .i64 x.clock_, .slice A0 x.cells_.length c0]) := Lib.hid (Bx.chg (Bx.new' _ _ _ rfl) cq (fun z => by have a := HS.out _ z.1; omega))
  have X : Hid (Chg (fun j => S j ∧ lab j < 1) w w1) := Lib.hid (((((Chg.refl (fun j => S j ∧ lab j < 0) w).al _)).mono fun j h => ⟨h.1, by have h2 := h.2; omega⟩).trans (cq.mono fun j h => ⟨h.1, by have h2 := h.2; omega⟩))
  clear cq
  go_wp2
  go_ret
  exact ⟨congrArg (fun z => Ending.returned (.int .i64 z)) (by have cc : Mem.ca x = x.cells_.length * 3 := rfl; omega), X.out.mono fun j h => h.1⟩
def Shelf.ct (x : Shelf) : Nat := 1 + x.slots_.length
def Shelf.ca (x : Shelf) : Nat := x.slots_.length
set_option maxRecDepth 20000 in
set_option maxHeartbeats 8000000 in
theorem shakeShelf_any (x : Shelf) (cs : List Value) (q : Int) (w : World) (S : Nat → Prop) (h : Shelf.W w S cs x) (hS : ∀ g, S g → g < w.heap.size) (hq : 0 ≤ q) (hqn : q + Shelf.ca x ≤ 9007199254740992) :
    Calls Tryz.prog 35 #[.agg cs.toArray, .int .i64 q] w fun e w' => e = .returned (.int .i64 (q + Shelf.ca x)) ∧ Chg S w w' := by
  have hca := hqn
  unfold Shelf.ca at hca
  obtain ⟨A0, n0, c0, lab, rfl, ⟨kh0, mh0, h0⟩⟩ := h
  obtain rfl : n0 = x.slots_.length := by have a := h0.sl.len; omega
  have H0 := Lib.hid h0
  have HS := Lib.hid hS
  clear hS h0
  show Calls Tryz.prog _ #[.agg #[.slice A0 x.slots_.length c0, .int .i64 x.count_], .int .i64 q] w _
  go_enter Tryz.func35, Tryz.ntmps35
  go_wp2_with fail
  refine (markIntS_ow _ _ _ x.slots_ _ _ _ (OwS.chg H0.out ((Chg.refl (fun j => S j ∧ lab j < 0) w).al _) (fun i h1 h2 => by have e1 := h1.2; have e2 := h2.2; omega)) (by skip; omega) (by skip; omega)).mono ?_
  rintro e w1 ⟨rfl, -, cq⟩
  have B : Hid (Bx w1 w.heap.size 38 #[.slice A0 x.slots_.length c0, .int .i64 x.count_]) := Lib.hid (Bx.chg (Bx.new' _ _ _ rfl) cq (fun z => by have a := HS.out _ z.1; omega))
  have X : Hid (Chg (fun j => S j ∧ lab j < 1) w w1) := Lib.hid (((((Chg.refl (fun j => S j ∧ lab j < 0) w).al _)).mono fun j h => ⟨h.1, by have h2 := h.2; omega⟩).trans (cq.mono fun j h => ⟨h.1, by have h2 := h.2; omega⟩))
  clear cq
  go_wp2
  go_ret
  exact ⟨congrArg (fun z => Ending.returned (.int .i64 z)) (by have cc : Shelf.ca x = x.slots_.length := rfl; omega), X.out.mono fun j h => h.1⟩
def GWorld.ct (x : GWorld) : Nat := 4 + x.mem_.cells_.length * 3 + x.shelf_.slots_.length + x.holds_.length * 3 + ctl Root.ct x.roots_ + ctl Wrote.ct x.hist_
def GWorld.ca (x : GWorld) : Nat := x.mem_.cells_.length * 3 + x.shelf_.slots_.length + x.holds_.length * 3 + ctl Root.ct x.roots_ + ctl Wrote.ct x.hist_
theorem GWorld.ca_le (x : GWorld) : GWorld.ca x ≤ 64 * (GWorld.wt x + 1) := by
  have c0 : Mem.wt x.mem_ = x.mem_.cells_.length := rfl
  have c1 : Shelf.wt x.shelf_ = x.shelf_.slots_.length := rfl
  have c2 := ctl_bound (f := Root.ct) (wt := Root.wt) (b := 64) Root.ct_le (l := x.roots_)
  have c3 := ctl_bound (f := Wrote.ct) (wt := Wrote.wt) (b := 64) Wrote.ct_le (l := x.hist_)
  unfold GWorld.ca GWorld.wt
  omega
set_option maxRecDepth 20000 in
set_option maxHeartbeats 8000000 in
theorem shakeGWorld_any (x : GWorld) (cs : List Value) (q : Int) (w : World) (S : Nat → Prop) (h : GWorld.W w S cs x) (hS : ∀ g, S g → g < w.heap.size) (hq : 0 ≤ q) (hqn : q + GWorld.ca x ≤ 9007199254740992) :
    Calls Tryz.prog 10 #[.agg cs.toArray, .int .i64 q] w fun e w' => e = .returned (.int .i64 (q + GWorld.ca x)) ∧ Chg S w w' := by
  have hca := hqn
  unfold GWorld.ca at hca
  obtain ⟨v0, v1, A2, n2, c2, A3, n3, c3, A4, n4, c4, lab, rfl, h0, h1, ⟨kh2, mh2, h2⟩, ⟨kh3, mh3, h3⟩, ⟨kh4, mh4, h4⟩⟩ := h
  have H0 := Lib.hid h0
  obtain ⟨A0, n0, c0, rfl⟩ := Mem.W_cells h0
  have H1 := Lib.hid h1
  obtain ⟨A1, n1, c1, rfl⟩ := Shelf.W_cells h1
  obtain rfl : n2 = x.holds_.length := by have a := h2.sl.flen Hold.cells_length (by omega); omega
  have H2 := Lib.hid h2
  obtain rfl : n3 = x.roots_.length := by have a := h3.1; omega
  have H3 := Lib.hid h3
  obtain rfl : n4 = x.hist_.length := by have a := h4.1; omega
  have H4 := Lib.hid h4
  have HS := Lib.hid hS
  clear hS h0 h1 h2 h3 h4
  simp only [List.cons_append, List.nil_append]
  go_enter Tryz.func10, Tryz.ntmps10
  go_wp2_with fail
  refine (shakeMem_any x.mem_ _ _ _ _ (Mem.W_good.chg H0.out ((Chg.refl (fun j => S j ∧ lab j < 0) w).al _) (fun i h1 h2 => by have e1 := h1.2; have e2 := h2.2; omega)) (fun g hg => Nat.lt_of_lt_of_le (HS.out g hg.1) ((Chg.refl (fun j => S j ∧ lab j < 0) w).al _).size) (by have cn2 : Mem.ca x.mem_ = x.mem_.cells_.length * 3 := rfl; have cn3 : Shelf.ca x.shelf_ = x.shelf_.slots_.length := rfl; omega) (by have cn2 : Mem.ca x.mem_ = x.mem_.cells_.length * 3 := rfl; have cn3 : Shelf.ca x.shelf_ = x.shelf_.slots_.length := rfl; omega)).mono ?_
  rintro e w1 ⟨rfl, cq⟩
  have B : Hid (Bx w1 w.heap.size 43 #[.int .i64 x.now_, .int .i64 x.token_, .int .i64 x.mem_.clock_, .slice A0 n0 c0, .slice A1 n1 c1, .int .i64 x.shelf_.count_, .slice A2 x.holds_.length c2, .slice A3 x.roots_.length c3, .slice A4 x.hist_.length c4]) := Lib.hid (Bx.chg (Bx.new' _ _ _ rfl) cq (fun z => by have a := HS.out _ z.1; omega))
  have X : Hid (Chg (fun j => S j ∧ lab j < 1) w w1) := Lib.hid (((((Chg.refl (fun j => S j ∧ lab j < 0) w).al _)).mono fun j h => ⟨h.1, by have h2 := h.2; omega⟩).trans (cq.mono fun j h => ⟨h.1, by have h2 := h.2; omega⟩))
  clear cq
  have ca1_4 : w1.cell? ⟨w.heap.size, 4, none⟩ = some (.slice A1 n1 c1) := B.out.cell 4
  have ca1_5 : w1.cell? ⟨w.heap.size, 5, none⟩ = some (.int .i64 x.shelf_.count_) := B.out.cell 5
  go_wp2_with fail
  refine (shakeShelf_any x.shelf_ _ _ _ _ (Shelf.W_good.chg H1.out X.out (fun i h1 h2 => by have e1 := h1.2; have e2 := h2.2; omega)) (fun g hg => Nat.lt_of_lt_of_le (HS.out g hg.1) X.out.size) (by have cn2 : Mem.ca x.mem_ = x.mem_.cells_.length * 3 := rfl; have cn3 : Shelf.ca x.shelf_ = x.shelf_.slots_.length := rfl; omega) (by have cn2 : Mem.ca x.mem_ = x.mem_.cells_.length * 3 := rfl; have cn3 : Shelf.ca x.shelf_ = x.shelf_.slots_.length := rfl; omega)).mono ?_
  rintro e w2 ⟨rfl, cq⟩
  replace B : Hid (Bx w2 w.heap.size 43 #[.int .i64 x.now_, .int .i64 x.token_, .int .i64 x.mem_.clock_, .slice A0 n0 c0, .slice A1 n1 c1, .int .i64 x.shelf_.count_, .slice A2 x.holds_.length c2, .slice A3 x.roots_.length c3, .slice A4 x.hist_.length c4]) := Lib.hid (Bx.chg (B.out) cq (fun z => by have a := HS.out _ z.1; omega))
  replace X : Hid (Chg (fun j => S j ∧ lab j < 2) w w2) := Lib.hid (((X.out).mono fun j h => ⟨h.1, by have h2 := h.2; omega⟩).trans (cq.mono fun j h => ⟨h.1, by have h2 := h.2; omega⟩))
  clear cq
  clear ca1_4 ca1_5
  have ca2_6 : w2.cell? ⟨w.heap.size, 6, none⟩ = some (.slice A2 x.holds_.length c2) := B.out.cell 6
  go_wp2_with fail
  refine (markHoldS_ow _ _ _ x.holds_ _ _ _ (OwS.chg H2.out X.out (fun i h1 h2 => by have e1 := h1.2; have e2 := h2.2; omega)) (by have cn2 : Mem.ca x.mem_ = x.mem_.cells_.length * 3 := rfl; have cn3 : Shelf.ca x.shelf_ = x.shelf_.slots_.length := rfl; omega) (by have cn2 : Mem.ca x.mem_ = x.mem_.cells_.length * 3 := rfl; have cn3 : Shelf.ca x.shelf_ = x.shelf_.slots_.length := rfl; omega)).mono ?_
  rintro e w3 ⟨rfl, -, cq⟩
  replace B : Hid (Bx w3 w.heap.size 43 #[.int .i64 x.now_, .int .i64 x.token_, .int .i64 x.mem_.clock_, .slice A0 n0 c0, .slice A1 n1 c1, .int .i64 x.shelf_.count_, .slice A2 x.holds_.length c2, .slice A3 x.roots_.length c3, .slice A4 x.hist_.length c4]) := Lib.hid (Bx.chg (B.out) cq (fun z => by have a := HS.out _ z.1; omega))
  replace X : Hid (Chg (fun j => S j ∧ lab j < 3) w w3) := Lib.hid (((X.out).mono fun j h => ⟨h.1, by have h2 := h.2; omega⟩).trans (cq.mono fun j h => ⟨h.1, by have h2 := h.2; omega⟩))
  clear cq
  clear ca2_6
  have ca3_7 : w3.cell? ⟨w.heap.size, 7, none⟩ = some (.slice A3 x.roots_.length c3) := B.out.cell 7
  go_wp2_with fail
  refine (shakeRootS_any _ _ _ x.roots_ _ _ _ (SlW.chg Root.W_good H3.out X.out (fun i h1 h2 => by have e1 := h1.2; have e2 := h2.2; omega)) (fun g hg => Nat.lt_of_lt_of_le (HS.out g hg.1) X.out.size) (by have cn2 : Mem.ca x.mem_ = x.mem_.cells_.length * 3 := rfl; have cn3 : Shelf.ca x.shelf_ = x.shelf_.slots_.length := rfl; omega) (by have cn2 : Mem.ca x.mem_ = x.mem_.cells_.length * 3 := rfl; have cn3 : Shelf.ca x.shelf_ = x.shelf_.slots_.length := rfl; omega) (by omega)).mono ?_
  rintro e w4 ⟨rfl, cq⟩
  replace B : Hid (Bx w4 w.heap.size 43 #[.int .i64 x.now_, .int .i64 x.token_, .int .i64 x.mem_.clock_, .slice A0 n0 c0, .slice A1 n1 c1, .int .i64 x.shelf_.count_, .slice A2 x.holds_.length c2, .slice A3 x.roots_.length c3, .slice A4 x.hist_.length c4]) := Lib.hid (Bx.chg (B.out) cq (fun z => by have a := HS.out _ z.1; omega))
  replace X : Hid (Chg (fun j => S j ∧ lab j < 4) w w4) := Lib.hid (((X.out).mono fun j h => ⟨h.1, by have h2 := h.2; omega⟩).trans (cq.mono fun j h => ⟨h.1, by have h2 := h.2; omega⟩))
  clear cq
  clear ca3_7
  have ca4_8 : w4.cell? ⟨w.heap.size, 8, none⟩ = some (.slice A4 x.hist_.length c4) := B.out.cell 8
  go_wp2_with fail
  refine (shakeWroteS_any _ _ _ x.hist_ _ _ _ (SlW.chg Wrote.W_good H4.out X.out (fun i h1 h2 => by have e1 := h1.2; have e2 := h2.2; omega)) (fun g hg => Nat.lt_of_lt_of_le (HS.out g hg.1) X.out.size) (by have cn2 : Mem.ca x.mem_ = x.mem_.cells_.length * 3 := rfl; have cn3 : Shelf.ca x.shelf_ = x.shelf_.slots_.length := rfl; omega) (by have cn2 : Mem.ca x.mem_ = x.mem_.cells_.length * 3 := rfl; have cn3 : Shelf.ca x.shelf_ = x.shelf_.slots_.length := rfl; omega) (by omega)).mono ?_
  rintro e w5 ⟨rfl, cq⟩
  replace B : Hid (Bx w5 w.heap.size 43 #[.int .i64 x.now_, .int .i64 x.token_, .int .i64 x.mem_.clock_, .slice A0 n0 c0, .slice A1 n1 c1, .int .i64 x.shelf_.count_, .slice A2 x.holds_.length c2, .slice A3 x.roots_.length c3, .slice A4 x.hist_.length c4]) := Lib.hid (Bx.chg (B.out) cq (fun z => by have a := HS.out _ z.1; omega))
  replace X : Hid (Chg (fun j => S j ∧ lab j < 5) w w5) := Lib.hid (((X.out).mono fun j h => ⟨h.1, by have h2 := h.2; omega⟩).trans (cq.mono fun j h => ⟨h.1, by have h2 := h.2; omega⟩))
  clear cq
  clear ca4_8
  go_wp2
  go_ret
  exact ⟨congrArg (fun z => Ending.returned (.int .i64 z)) (by have cc : GWorld.ca x = x.mem_.cells_.length * 3 + x.shelf_.slots_.length + x.holds_.length * 3 + ctl Root.ct x.roots_ + ctl Wrote.ct x.hist_ := rfl; have cn2 : Mem.ca x.mem_ = x.mem_.cells_.length * 3 := rfl; have cn3 : Shelf.ca x.shelf_ = x.shelf_.slots_.length := rfl; omega), X.out.mono fun j h => h.1⟩

end Go.Proofs.YtfacckjfoajijaaGreat
