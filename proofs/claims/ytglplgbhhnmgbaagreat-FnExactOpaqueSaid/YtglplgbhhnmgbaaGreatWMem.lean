/- The laws' helpers on Mem, Shelf, Wrote. No condition but sizes. -/
import Derived.Test.YtglplgbhhnmgbaaGreatWFlat2
namespace Go.Proofs.YtglplgbhhnmgbaaGreat
open Go.RowKit Go.Deep

/-! ### Mem -/
structure Mem where
  clock_ : Int
  cells_ : List Word
deriving Inhabited
def Mem.wt (x : Mem) : Nat := x.cells_.length
def Mem.R (w : World) (S : Nat → Prop) (cs : List Value) (x : Mem) : Prop := ∃ (A0 : Option Addr) (n0 c0 : Nat), cs = [.int .i64 x.clock_, .slice A0 n0 c0] ∧ (n0 ≤ c0 ∧ n0 ≤ 9223372036854775807 ∧ Sl w S 3 A0 n0 (x.cells_.flatMap Word.cells))
def Mem.W (w : World) (S : Nat → Prop) (cs : List Value) (x : Mem) : Prop := ∃ (A0 : Option Addr) (n0 c0 : Nat) (lab : Nat → Nat), cs = [.int .i64 x.clock_, .slice A0 n0 c0] ∧ (n0 ≤ c0 ∧ n0 ≤ 9223372036854775807 ∧ OwS w (fun g => S g ∧ lab g = 0) 181 3 A0 n0 c0 (x.cells_.flatMap Word.cells))
theorem Mem.R_good : Good Mem.R 2 := ⟨fun {_ _ _ _} h => by
    obtain ⟨A0, n0, c0, rfl, ⟨kh0, mh0, h0⟩⟩ := h
    rfl,
  fun {_ _ _ _ _ _} h k hd => by
    obtain ⟨A0, n0, c0, rfl, ⟨kh0, mh0, h0⟩⟩ := h
    exact ⟨_, _, _, rfl, ⟨kh0, mh0, h0.chg k hd⟩⟩,
  fun {_ _ _ _ _} h hs => by
    obtain ⟨A0, n0, c0, rfl, ⟨kh0, mh0, h0⟩⟩ := h
    exact ⟨_, _, _, rfl, ⟨kh0, mh0, h0.mono hs⟩⟩⟩
theorem Mem.W_good : Good Mem.W 2 := ⟨fun {_ _ _ _} h => by
    obtain ⟨A0, n0, c0, lab, rfl, ⟨kh0, mh0, h0⟩⟩ := h
    rfl,
  fun {_ _ _ _ _ _} h k hd => by
    obtain ⟨A0, n0, c0, lab, rfl, ⟨kh0, mh0, h0⟩⟩ := h
    exact ⟨_, _, _, lab, rfl, ⟨kh0, mh0, h0.chg k fun i hi => hd i hi.1⟩⟩,
  fun {_ _ _ _ _} h hs => by
    obtain ⟨A0, n0, c0, lab, rfl, ⟨kh0, mh0, h0⟩⟩ := h
    exact ⟨_, _, _, lab, rfl, ⟨kh0, mh0, h0.mono fun i _ hi => ⟨hs i hi.1, hi.2⟩⟩⟩⟩
theorem Mem.W_R {w : World} {S : Nat → Prop} {cs : List Value} {x : Mem} (h : Mem.W w S cs x) : Mem.R w S cs x := by
  obtain ⟨A0, n0, c0, lab, rfl, ⟨kh0, mh0, h0⟩⟩ := h
  exact ⟨_, _, _, rfl, ⟨kh0, mh0, h0.sl.mono fun i hi => hi.1⟩⟩
theorem Mem.R_cells {w : World} {S : Nat → Prop} {cs : List Value} {x : Mem} (h : Mem.R w S cs x) : ∃ (A0 : Option Addr) (n0 c0 : Nat), cs = [.int .i64 x.clock_, .slice A0 n0 c0] := by
  obtain ⟨A0, n0, c0, rfl, ⟨kh0, mh0, h0⟩⟩ := h
  exact ⟨A0, n0, c0, rfl⟩
theorem Mem.W_cells {w : World} {S : Nat → Prop} {cs : List Value} {x : Mem} (h : Mem.W w S cs x) : ∃ (A0 : Option Addr) (n0 c0 : Nat), cs = [.int .i64 x.clock_, .slice A0 n0 c0] := by
  obtain ⟨A0, n0, c0, lab, rfl, ⟨kh0, mh0, h0⟩⟩ := h
  exact ⟨A0, n0, c0, rfl⟩
set_option maxRecDepth 8000 in
set_option maxHeartbeats 4000000 in
theorem opens_Mem : Opens Tryz.prog 31 (fun w cs (x : Mem) => Mem.R w (fun _ => True) cs x) := by
  intro H enc w base spare held fuel cs x h
  obtain ⟨xs, n, _, _, hlen, hxl, hf⟩ := DataW.trod_struct Tryz.underlying31 h
  rw [show Tryz.prog.cellsOf 31 = 2 from by kernel_rfl] at hlen
  have hxl' : xs.length = 2 := hxl
  have h0 : DataW.trod enc Tryz.prog w base spare held n 3 ((cs.drop 0).take (Tryz.prog.cellsOf 3)) = xs[0]? := hf 0 _ rfl
  rw [show Tryz.prog.cellsOf 3 = 1 from by kernel_rfl, List.getElem?_eq_getElem (show 0 < xs.length by omega)] at h0
  obtain ⟨f0, e0, -, -⟩ := DataW.trod_int Tryz.underlying3 h0
  have h1 : DataW.trod enc Tryz.prog w base spare held n 29 ((cs.drop 1).take (Tryz.prog.cellsOf 29)) = xs[1]? := hf 1 _ rfl
  rw [show Tryz.prog.cellsOf 29 = 1 from by kernel_rfl, List.getElem?_eq_getElem (show 1 < xs.length by omega)] at h1
  obtain ⟨f1, A1, n1, c1, e1, g1, g1', -, -, s1⟩ := opens_flat Tryz.underlying29 (by kernel_rfl) (by omega) Word.cells_length opens_Word H enc w base spare held n _ _ h1
  clear h0 h1 hf h hxl hxl'
  match cs, hlen with
  | [q0, q1], _ =>
    simp only [List.drop_succ_cons, List.drop_zero, List.take_succ_cons, List.take_zero, List.cons.injEq, and_true] at e0 e1
    subst e0
    subst e1
    exact ⟨⟨f0, f1⟩, _, _, _, rfl, ⟨g1, Nat.le_trans g1 g1', s1⟩⟩
set_option maxRecDepth 8000 in
set_option maxHeartbeats 4000000 in
theorem szMem_any (x : Mem) (cs : List Value) (q : Int) (w : World) (S : Nat → Prop) (h : Mem.R w S cs x) (hq0 : 0 ≤ q) (hq2 : q ≤ 1048576) :
    Calls Tryz.prog 15 #[.agg cs.toArray, .int .i64 q] w fun e w' => ∃ r : Int, e = .returned (.int .i64 r) ∧ Left r q (Mem.wt x) ∧ Ext w w' := by
  obtain ⟨A0, n0, c0, rfl, ⟨kh0, mh0, h0⟩⟩ := h
  have H0 := Lib.hid h0
  clear h0
  show Calls Tryz.prog _ #[.agg #[.int .i64 x.clock_, .slice A0 n0 c0], .int .i64 q] w _
  go_enter Tryz.func15, Tryz.ntmps15
  go_wp2_with fail
  have L0 := Lib.hid (H0.out.flen Word.cells_length (by omega))
  refine (szWordS_any _ _ _ (q) _ hq0 hq2 mh0).mono ?_
  rintro e w1 ⟨rfl, xq⟩
  have x1 := Ext.of_eq xq
  clear xq
  have Q0 : Hid (Left (if (n0 : Int) ≤ q then q - n0 else -1) q (x.cells_.length)) := by show Left _ _ _; rw [L0.out]; exact Left.of_if
  generalize (if (n0 : Int) ≤ q then q - n0 else -1) = r0 at Q0
  have X1 : Ext w w1 := Ext.tr (((Ext.refl' w).al _)) x1
  have b1 : Hid (Bx w1 w.heap.size 31 #[.int .i64 x.clock_, .slice A0 n0 c0]) := Bx.ext (Bx.new' _ _ _ rfl) x1
  clear x1
  have R0 : Hid (Left r0 q (x.cells_.length)) := Q0
  by_cases g0 : 0 ≤ r0
  rotate_left
  · have e0 : r0 = -1 := by have a := R0.out; unfold Left at a; omega
    subst e0
    clear g0
    go_wp2
    go_ret
    exact ⟨-1, rfl, by have a := R0.out; unfold Left Mem.wt at *; omega, X1⟩
  have u0 : r0 ≤ 1048576 := by have a := R0.out; unfold Left at a; omega
  go_wp2
  go_ret
  exact ⟨r0, rfl, R0.out, X1⟩
set_option maxRecDepth 8000 in
set_option maxHeartbeats 8000000 in
theorem toMem_any (x : Mem) (cs : List Value) (w : World) (S : Nat → Prop) (h : Mem.R w S cs x) (hw : Mem.wt x ≤ 1048576) :
    Calls Tryz.prog 28 #[.agg cs.toArray] w fun e w' => ∃ cs', e = .returned (.agg cs'.toArray) ∧ Mem.W w' (fun g => w.heap.size ≤ g ∧ g < w'.heap.size) cs' x ∧ Ext w w' := by
  obtain ⟨A0, n0, c0, rfl, ⟨kh0, mh0, h0⟩⟩ := h
  unfold Mem.wt at hw
  have l0 := h0.flen Word.cells_length (by omega)
  have n_0 : n0 ≤ 1048576 := by omega
  have H0 := Lib.hid h0
  clear h0 hw l0
  show Calls Tryz.prog _ #[.agg #[.int .i64 x.clock_, .slice A0 n0 c0]] w _
  go_enter Tryz.func28, Tryz.ntmps28
  go_wp2_with fail
  refine (toWordS_any _ _ _ _ _ S (H0.out.ext ((((Ext.refl' w).al _).al _).al _)) n_0).mono ?_
  rintro e w1 ⟨B0, d0, rfl, o0, x1⟩
  have K0 : Hid (n0 ≤ d0) := own_cap o0
  replace o0 := Lib.hid (OwS.of_own o0)
  have z1 : w.heap.size + 3 ≤ w1.heap.size := by have h := x1.size; (try simp at h); omega
  have ba1 : Hid (Bx w1 (w.heap.size) 31 #[.int .i64 x.clock_, .slice A0 n0 c0]) := Bx.ext (((Bx.new' _ _ _ rfl).al _).al _) x1
  have br1 : Hid (Bx w1 (w.heap.size + 1) 50 #[.int .i64 0, .slice none 0 0]) := Bx.ext ((Bx.new' _ _ _ (by simp)).al _) x1
  have bo1 : Hid (Bx w1 (w.heap.size + 2) 50 #[.int .i64 x.clock_, .slice none 0 0]) := Bx.ext (Bx.new' _ _ _ (by simp)) x1
  have X1 : Ext w w1 := Ext.tr ((((Ext.refl' w).al _).al _).al _) x1
  replace o0 : Hid (OwS w1 (fun g => w.heap.size + 3 ≤ g ∧ g < w1.heap.size) 181 3 B0 n0 d0 (x.cells_.flatMap Word.cells)) := o0.out.mono (fun g _ hg => by have h1 := hg.1; have h2 := hg.2; constructor <;> (try simp at h1) <;> omega)
  clear x1
  have co1_0 : w1.cell? ⟨w.heap.size + 2, 0, none⟩ = some (.int .i64 x.clock_) := bo1.out.cell 0
  have co1_1 : w1.cell? ⟨w.heap.size + 2, 1, none⟩ = some (.slice none 0 0) := bo1.out.cell 1
  have fo1_1 : w1.frozen? ⟨w.heap.size + 2, 1, none⟩ = false := bo1.out.frozen 1
  have cr1_0 : w1.cell? ⟨w.heap.size + 1, 0, none⟩ = some (.int .i64 0) := br1.out.cell 0
  have fr1_0 : w1.frozen? ⟨w.heap.size + 1, 0, none⟩ = false := br1.out.frozen 0
  have cr1_1 : w1.cell? ⟨w.heap.size + 1, 1, none⟩ = some (.slice none 0 0) := br1.out.cell 1
  have fr1_1 : w1.frozen? ⟨w.heap.size + 1, 1, none⟩ = false := br1.out.frozen 1
  go_wp2
  refine bodyPost_ret (v := .agg #[.int .i64 x.clock_, .slice B0 n0 d0]) (by simp [results, Tryz.results28, go_sem, cr1_0, cr1_1]) rfl ⟨[.int .i64 x.clock_, .slice B0 n0 d0], rfl, ?_, ?_⟩
  · refine (?_ : ∀ wz, Chg (fun g => g = w.heap.size + 2 ∨ g = w.heap.size + 1) w1 wz → Mem.W wz (fun g => w.heap.size ≤ g ∧ g < wz.heap.size) [.int .i64 x.clock_, .slice B0 n0 d0] x) _ ((((Chg.refl (fun g => g = w.heap.size + 2 ∨ g = w.heap.size + 1) _).sc (by first | (simp; done) | (simp; omega)) _).sc (by first | (simp; done) | (simp; omega)) _).sc (by first | (simp; done) | (simp; omega)) _)
    intro wz cc
    have zz := cc.size
    exact ⟨B0, n0, d0, lb [w1.heap.size], rfl, ⟨K0.out, mh0, (o0.out.chg cc (fun g hg q => by have h1 := hg.1; have hq3 : g = w.heap.size + 2 ∨ g = w.heap.size + 1 := q; omega)).mono (fun g _ hg => ⟨⟨by have h1 := hg.1; omega, by have h2 := hg.2; omega⟩, by have h1 := hg.1; have h2 := hg.2; exact lb_here (by omega)⟩)⟩⟩
  · exact (((X1).sc (by first | (simp; done) | (simp; omega)) _).sc (by first | (simp; done) | (simp; omega)) _).sc (by first | (simp; done) | (simp; omega)) _
set_option maxRecDepth 8000 in
set_option maxHeartbeats 8000000 in
theorem eqMem_same (x : Mem) (cs cs' : List Value) (w : World) (S S' : Nat → Prop) (h : Mem.R w S cs x) (u : Mem.R w S' cs' x) :
    Calls Tryz.prog 41 #[.agg cs.toArray, .agg cs'.toArray] w fun e w' => e = .returned (.bool true) ∧ Ext w w' := by
  obtain ⟨A0, n0, c0, rfl, ⟨kh0, mh0, h0⟩⟩ := h
  obtain ⟨B0, p0, d0, rfl, ⟨ku0, mu0, u0⟩⟩ := u
  obtain rfl : n0 = p0 := by have a := h0.flen Word.cells_length (by omega); have b := u0.flen Word.cells_length (by omega); omega
  have H0 := Lib.hid h0
  have U0 := Lib.hid u0
  clear h0 u0
  show Calls Tryz.prog _ #[.agg #[.int .i64 x.clock_, .slice A0 n0 c0], .agg #[.int .i64 x.clock_, .slice B0 n0 d0]] w _
  go_enter Tryz.func41, Tryz.ntmps41
  go_wp2_with fail
  refine (eqWordS_same _ _ _ _ _ _ _ S S' (H0.out.ext (((Ext.refl' w).al _).al _)) (U0.out.ext (((Ext.refl' w).al _).al _)) mh0).mono ?_
  rintro e w1 ⟨rfl, x1⟩
  have z1 : w.heap.size + 2 ≤ w1.heap.size := by have h := x1.size; (try simp at h); omega
  have ba1 : Hid (Bx w1 (w.heap.size) 50 #[.int .i64 x.clock_, .slice A0 n0 c0]) := Bx.ext ((Bx.new' _ _ _ rfl).al _) x1
  have bb1 : Hid (Bx w1 (w.heap.size + 1) 50 #[.int .i64 x.clock_, .slice B0 n0 d0]) := Bx.ext (Bx.new' _ _ _ (by simp)) x1
  have X1 : Ext w w1 := Ext.tr (((Ext.refl' w).al _).al _) x1
  clear x1
  go_wp2
  go_ret
  exact ⟨rfl, X1⟩
/-! ### Shelf -/
structure Shelf where
  slots_ : List Int
  count_ : Int
deriving Inhabited
def Shelf.wt (x : Shelf) : Nat := x.slots_.length
def Shelf.R (w : World) (S : Nat → Prop) (cs : List Value) (x : Shelf) : Prop := ∃ (A0 : Option Addr) (n0 c0 : Nat), cs = [.slice A0 n0 c0, .int .i64 x.count_] ∧ (n0 ≤ c0 ∧ n0 ≤ 9223372036854775807 ∧ Sl w S 1 A0 n0 (ints x.slots_))
def Shelf.W (w : World) (S : Nat → Prop) (cs : List Value) (x : Shelf) : Prop := ∃ (A0 : Option Addr) (n0 c0 : Nat) (lab : Nat → Nat), cs = [.slice A0 n0 c0, .int .i64 x.count_] ∧ (n0 ≤ c0 ∧ n0 ≤ 9223372036854775807 ∧ OwS w (fun g => S g ∧ lab g = 0) 3 1 A0 n0 c0 (ints x.slots_))
theorem Shelf.R_good : Good Shelf.R 2 := ⟨fun {_ _ _ _} h => by
    obtain ⟨A0, n0, c0, rfl, ⟨kh0, mh0, h0⟩⟩ := h
    rfl,
  fun {_ _ _ _ _ _} h k hd => by
    obtain ⟨A0, n0, c0, rfl, ⟨kh0, mh0, h0⟩⟩ := h
    exact ⟨_, _, _, rfl, ⟨kh0, mh0, h0.chg k hd⟩⟩,
  fun {_ _ _ _ _} h hs => by
    obtain ⟨A0, n0, c0, rfl, ⟨kh0, mh0, h0⟩⟩ := h
    exact ⟨_, _, _, rfl, ⟨kh0, mh0, h0.mono hs⟩⟩⟩
theorem Shelf.W_good : Good Shelf.W 2 := ⟨fun {_ _ _ _} h => by
    obtain ⟨A0, n0, c0, lab, rfl, ⟨kh0, mh0, h0⟩⟩ := h
    rfl,
  fun {_ _ _ _ _ _} h k hd => by
    obtain ⟨A0, n0, c0, lab, rfl, ⟨kh0, mh0, h0⟩⟩ := h
    exact ⟨_, _, _, lab, rfl, ⟨kh0, mh0, h0.chg k fun i hi => hd i hi.1⟩⟩,
  fun {_ _ _ _ _} h hs => by
    obtain ⟨A0, n0, c0, lab, rfl, ⟨kh0, mh0, h0⟩⟩ := h
    exact ⟨_, _, _, lab, rfl, ⟨kh0, mh0, h0.mono fun i _ hi => ⟨hs i hi.1, hi.2⟩⟩⟩⟩
theorem Shelf.W_R {w : World} {S : Nat → Prop} {cs : List Value} {x : Shelf} (h : Shelf.W w S cs x) : Shelf.R w S cs x := by
  obtain ⟨A0, n0, c0, lab, rfl, ⟨kh0, mh0, h0⟩⟩ := h
  exact ⟨_, _, _, rfl, ⟨kh0, mh0, h0.sl.mono fun i hi => hi.1⟩⟩
theorem Shelf.R_cells {w : World} {S : Nat → Prop} {cs : List Value} {x : Shelf} (h : Shelf.R w S cs x) : ∃ (A0 : Option Addr) (n0 c0 : Nat), cs = [.slice A0 n0 c0, .int .i64 x.count_] := by
  obtain ⟨A0, n0, c0, rfl, ⟨kh0, mh0, h0⟩⟩ := h
  exact ⟨A0, n0, c0, rfl⟩
theorem Shelf.W_cells {w : World} {S : Nat → Prop} {cs : List Value} {x : Shelf} (h : Shelf.W w S cs x) : ∃ (A0 : Option Addr) (n0 c0 : Nat), cs = [.slice A0 n0 c0, .int .i64 x.count_] := by
  obtain ⟨A0, n0, c0, lab, rfl, ⟨kh0, mh0, h0⟩⟩ := h
  exact ⟨A0, n0, c0, rfl⟩
set_option maxRecDepth 8000 in
set_option maxHeartbeats 4000000 in
theorem opens_Shelf : Opens Tryz.prog 33 (fun w cs (x : Shelf) => Shelf.R w (fun _ => True) cs x) := by
  intro H enc w base spare held fuel cs x h
  obtain ⟨xs, n, _, _, hlen, hxl, hf⟩ := DataW.trod_struct Tryz.underlying33 h
  rw [show Tryz.prog.cellsOf 33 = 2 from by kernel_rfl] at hlen
  have hxl' : xs.length = 2 := hxl
  have h0 : DataW.trod enc Tryz.prog w base spare held n 22 ((cs.drop 0).take (Tryz.prog.cellsOf 22)) = xs[0]? := hf 0 _ rfl
  rw [show Tryz.prog.cellsOf 22 = 1 from by kernel_rfl, List.getElem?_eq_getElem (show 0 < xs.length by omega)] at h0
  obtain ⟨f0, A0, n0, c0, e0, g0, g0', -, -, s0⟩ := opens_ints Tryz.underlying22 Tryz.underlying3 (by kernel_rfl) H enc w base spare held n _ _ h0
  have h1 : DataW.trod enc Tryz.prog w base spare held n 3 ((cs.drop 1).take (Tryz.prog.cellsOf 3)) = xs[1]? := hf 1 _ rfl
  rw [show Tryz.prog.cellsOf 3 = 1 from by kernel_rfl, List.getElem?_eq_getElem (show 1 < xs.length by omega)] at h1
  obtain ⟨f1, e1, -, -⟩ := DataW.trod_int Tryz.underlying3 h1
  clear h0 h1 hf h hxl hxl'
  match cs, hlen with
  | [q0, q1], _ =>
    simp only [List.drop_succ_cons, List.drop_zero, List.take_succ_cons, List.take_zero, List.cons.injEq, and_true] at e0 e1
    subst e0
    subst e1
    exact ⟨⟨f0, f1⟩, _, _, _, rfl, ⟨g0, Nat.le_trans g0 g0', s0⟩⟩
set_option maxRecDepth 8000 in
set_option maxHeartbeats 4000000 in
theorem szShelf_any (x : Shelf) (cs : List Value) (q : Int) (w : World) (S : Nat → Prop) (h : Shelf.R w S cs x) (hq0 : 0 ≤ q) (hq2 : q ≤ 1048576) :
    Calls Tryz.prog 16 #[.agg cs.toArray, .int .i64 q] w fun e w' => ∃ r : Int, e = .returned (.int .i64 r) ∧ Left r q (Shelf.wt x) ∧ Ext w w' := by
  obtain ⟨A0, n0, c0, rfl, ⟨kh0, mh0, h0⟩⟩ := h
  have H0 := Lib.hid h0
  clear h0
  show Calls Tryz.prog _ #[.agg #[.slice A0 n0 c0, .int .i64 x.count_], .int .i64 q] w _
  go_enter Tryz.func16, Tryz.ntmps16
  go_wp2_with fail
  have L0 := Lib.hid (H0.out.len)
  refine (szIntS_any _ _ _ (q) _ hq0 hq2 mh0).mono ?_
  rintro e w1 ⟨rfl, xq⟩
  have x1 := Ext.of_eq xq
  clear xq
  have Q0 : Hid (Left (if (n0 : Int) ≤ q then q - n0 else -1) q (x.slots_.length)) := by show Left _ _ _; rw [L0.out]; exact Left.of_if
  generalize (if (n0 : Int) ≤ q then q - n0 else -1) = r0 at Q0
  have X1 : Ext w w1 := Ext.tr (((Ext.refl' w).al _)) x1
  have b1 : Hid (Bx w1 w.heap.size 33 #[.slice A0 n0 c0, .int .i64 x.count_]) := Bx.ext (Bx.new' _ _ _ rfl) x1
  clear x1
  have R0 : Hid (Left r0 q (x.slots_.length)) := Q0
  by_cases g0 : 0 ≤ r0
  rotate_left
  · have e0 : r0 = -1 := by have a := R0.out; unfold Left at a; omega
    subst e0
    clear g0
    go_wp2
    go_ret
    exact ⟨-1, rfl, by have a := R0.out; unfold Left Shelf.wt at *; omega, X1⟩
  have u0 : r0 ≤ 1048576 := by have a := R0.out; unfold Left at a; omega
  go_wp2
  go_ret
  exact ⟨r0, rfl, R0.out, X1⟩
set_option maxRecDepth 8000 in
set_option maxHeartbeats 8000000 in
theorem toShelf_any (x : Shelf) (cs : List Value) (w : World) (S : Nat → Prop) (h : Shelf.R w S cs x) (hw : Shelf.wt x ≤ 1048576) :
    Calls Tryz.prog 29 #[.agg cs.toArray] w fun e w' => ∃ cs', e = .returned (.agg cs'.toArray) ∧ Shelf.W w' (fun g => w.heap.size ≤ g ∧ g < w'.heap.size) cs' x ∧ Ext w w' := by
  obtain ⟨A0, n0, c0, rfl, ⟨kh0, mh0, h0⟩⟩ := h
  unfold Shelf.wt at hw
  have l0 := h0.len
  have n_0 : n0 ≤ 1048576 := by omega
  have H0 := Lib.hid h0
  clear h0 hw l0
  show Calls Tryz.prog _ #[.agg #[.slice A0 n0 c0, .int .i64 x.count_]] w _
  go_enter Tryz.func29, Tryz.ntmps29
  go_wp2_with fail
  refine (toIntS_any _ _ _ _ _ S (H0.out.ext ((((Ext.refl' w).al _).al _).al _)) n_0).mono ?_
  rintro e w1 ⟨B0, d0, rfl, o0, x1⟩
  have K0 : Hid (n0 ≤ d0) := own_cap o0
  replace o0 := Lib.hid (OwS.of_own o0)
  have z1 : w.heap.size + 3 ≤ w1.heap.size := by have h := x1.size; (try simp at h); omega
  have ba1 : Hid (Bx w1 (w.heap.size) 33 #[.slice A0 n0 c0, .int .i64 x.count_]) := Bx.ext (((Bx.new' _ _ _ rfl).al _).al _) x1
  have br1 : Hid (Bx w1 (w.heap.size + 1) 51 #[.slice none 0 0, .int .i64 0]) := Bx.ext ((Bx.new' _ _ _ (by simp)).al _) x1
  have bo1 : Hid (Bx w1 (w.heap.size + 2) 51 #[.slice none 0 0, .int .i64 0]) := Bx.ext (Bx.new' _ _ _ (by simp)) x1
  have X1 : Ext w w1 := Ext.tr ((((Ext.refl' w).al _).al _).al _) x1
  replace o0 : Hid (OwS w1 (fun g => w.heap.size + 3 ≤ g ∧ g < w1.heap.size) 3 1 B0 n0 d0 (ints x.slots_)) := o0.out.mono (fun g _ hg => by have h1 := hg.1; have h2 := hg.2; constructor <;> (try simp at h1) <;> omega)
  clear x1
  have ca1_1 : w1.cell? ⟨w.heap.size, 1, none⟩ = some (.int .i64 x.count_) := ba1.out.cell 1
  have co1_0 : w1.cell? ⟨w.heap.size + 2, 0, none⟩ = some (.slice none 0 0) := bo1.out.cell 0
  have co1_1 : w1.cell? ⟨w.heap.size + 2, 1, none⟩ = some (.int .i64 0) := bo1.out.cell 1
  have fo1_0 : w1.frozen? ⟨w.heap.size + 2, 0, none⟩ = false := bo1.out.frozen 0
  have fo1_1 : w1.frozen? ⟨w.heap.size + 2, 1, none⟩ = false := bo1.out.frozen 1
  have cr1_0 : w1.cell? ⟨w.heap.size + 1, 0, none⟩ = some (.slice none 0 0) := br1.out.cell 0
  have fr1_0 : w1.frozen? ⟨w.heap.size + 1, 0, none⟩ = false := br1.out.frozen 0
  have cr1_1 : w1.cell? ⟨w.heap.size + 1, 1, none⟩ = some (.int .i64 0) := br1.out.cell 1
  have fr1_1 : w1.frozen? ⟨w.heap.size + 1, 1, none⟩ = false := br1.out.frozen 1
  go_wp2
  refine bodyPost_ret (v := .agg #[.slice B0 n0 d0, .int .i64 x.count_]) (by simp [results, Tryz.results29, go_sem, cr1_0, cr1_1]) rfl ⟨[.slice B0 n0 d0, .int .i64 x.count_], rfl, ?_, ?_⟩
  · refine (?_ : ∀ wz, Chg (fun g => g = w.heap.size + 2 ∨ g = w.heap.size + 1) w1 wz → Shelf.W wz (fun g => w.heap.size ≤ g ∧ g < wz.heap.size) [.slice B0 n0 d0, .int .i64 x.count_] x) _ (((((Chg.refl (fun g => g = w.heap.size + 2 ∨ g = w.heap.size + 1) _).sc (by first | (simp; done) | (simp; omega)) _).sc (by first | (simp; done) | (simp; omega)) _).sc (by first | (simp; done) | (simp; omega)) _).sc (by first | (simp; done) | (simp; omega)) _)
    intro wz cc
    have zz := cc.size
    exact ⟨B0, n0, d0, lb [w1.heap.size], rfl, ⟨K0.out, mh0, (o0.out.chg cc (fun g hg q => by have h1 := hg.1; have hq3 : g = w.heap.size + 2 ∨ g = w.heap.size + 1 := q; omega)).mono (fun g _ hg => ⟨⟨by have h1 := hg.1; omega, by have h2 := hg.2; omega⟩, by have h1 := hg.1; have h2 := hg.2; exact lb_here (by omega)⟩)⟩⟩
  · exact ((((X1).sc (by first | (simp; done) | (simp; omega)) _).sc (by first | (simp; done) | (simp; omega)) _).sc (by first | (simp; done) | (simp; omega)) _).sc (by first | (simp; done) | (simp; omega)) _
set_option maxRecDepth 8000 in
set_option maxHeartbeats 8000000 in
theorem eqShelf_same (x : Shelf) (cs cs' : List Value) (w : World) (S S' : Nat → Prop) (h : Shelf.R w S cs x) (u : Shelf.R w S' cs' x) :
    Calls Tryz.prog 42 #[.agg cs.toArray, .agg cs'.toArray] w fun e w' => e = .returned (.bool true) ∧ Ext w w' := by
  obtain ⟨A0, n0, c0, rfl, ⟨kh0, mh0, h0⟩⟩ := h
  obtain ⟨B0, p0, d0, rfl, ⟨ku0, mu0, u0⟩⟩ := u
  obtain rfl : n0 = p0 := by have a := h0.len; have b := u0.len; omega
  have H0 := Lib.hid h0
  have U0 := Lib.hid u0
  clear h0 u0
  show Calls Tryz.prog _ #[.agg #[.slice A0 n0 c0, .int .i64 x.count_], .agg #[.slice B0 n0 d0, .int .i64 x.count_]] w _
  go_enter Tryz.func42, Tryz.ntmps42
  go_wp2_with fail
  refine (eqIntS_same _ _ _ _ _ _ _ S S' (H0.out.ext (((Ext.refl' w).al _).al _)) (U0.out.ext (((Ext.refl' w).al _).al _)) mh0).mono ?_
  rintro e w1 ⟨rfl, x1⟩
  have z1 : w.heap.size + 2 ≤ w1.heap.size := by have h := x1.size; (try simp at h); omega
  have ba1 : Hid (Bx w1 (w.heap.size) 51 #[.slice A0 n0 c0, .int .i64 x.count_]) := Bx.ext ((Bx.new' _ _ _ rfl).al _) x1
  have bb1 : Hid (Bx w1 (w.heap.size + 1) 51 #[.slice B0 n0 d0, .int .i64 x.count_]) := Bx.ext (Bx.new' _ _ _ (by simp)) x1
  have X1 : Ext w w1 := Ext.tr (((Ext.refl' w).al _).al _) x1
  clear x1
  have ca1_1 : w1.cell? ⟨w.heap.size, 1, none⟩ = some (.int .i64 x.count_) := ba1.out.cell 1
  have cb1_1 : w1.cell? ⟨w.heap.size + 1, 1, none⟩ = some (.int .i64 x.count_) := bb1.out.cell 1
  go_wp2
  go_ret
  exact ⟨rfl, X1⟩
/-! ### Wrote -/
structure Wrote where
  stamp_ : Int
  who_ : Int
  puts_ : List Row
deriving Inhabited
def Wrote.wt (x : Wrote) : Nat := x.puts_.length
def Wrote.R (w : World) (S : Nat → Prop) (cs : List Value) (x : Wrote) : Prop := ∃ (A0 : Option Addr) (n0 c0 : Nat), cs = [.int .i64 x.stamp_, .int .i64 x.who_, .slice A0 n0 c0] ∧ (n0 ≤ c0 ∧ n0 ≤ 9223372036854775807 ∧ Sl w S 2 A0 n0 (x.puts_.flatMap Row.cells))
def Wrote.W (w : World) (S : Nat → Prop) (cs : List Value) (x : Wrote) : Prop := ∃ (A0 : Option Addr) (n0 c0 : Nat) (lab : Nat → Nat), cs = [.int .i64 x.stamp_, .int .i64 x.who_, .slice A0 n0 c0] ∧ (n0 ≤ c0 ∧ n0 ≤ 9223372036854775807 ∧ OwS w (fun g => S g ∧ lab g = 0) 87 2 A0 n0 c0 (x.puts_.flatMap Row.cells))
theorem Wrote.R_good : Good Wrote.R 3 := ⟨fun {_ _ _ _} h => by
    obtain ⟨A0, n0, c0, rfl, ⟨kh0, mh0, h0⟩⟩ := h
    rfl,
  fun {_ _ _ _ _ _} h k hd => by
    obtain ⟨A0, n0, c0, rfl, ⟨kh0, mh0, h0⟩⟩ := h
    exact ⟨_, _, _, rfl, ⟨kh0, mh0, h0.chg k hd⟩⟩,
  fun {_ _ _ _ _} h hs => by
    obtain ⟨A0, n0, c0, rfl, ⟨kh0, mh0, h0⟩⟩ := h
    exact ⟨_, _, _, rfl, ⟨kh0, mh0, h0.mono hs⟩⟩⟩
theorem Wrote.W_good : Good Wrote.W 3 := ⟨fun {_ _ _ _} h => by
    obtain ⟨A0, n0, c0, lab, rfl, ⟨kh0, mh0, h0⟩⟩ := h
    rfl,
  fun {_ _ _ _ _ _} h k hd => by
    obtain ⟨A0, n0, c0, lab, rfl, ⟨kh0, mh0, h0⟩⟩ := h
    exact ⟨_, _, _, lab, rfl, ⟨kh0, mh0, h0.chg k fun i hi => hd i hi.1⟩⟩,
  fun {_ _ _ _ _} h hs => by
    obtain ⟨A0, n0, c0, lab, rfl, ⟨kh0, mh0, h0⟩⟩ := h
    exact ⟨_, _, _, lab, rfl, ⟨kh0, mh0, h0.mono fun i _ hi => ⟨hs i hi.1, hi.2⟩⟩⟩⟩
theorem Wrote.W_R {w : World} {S : Nat → Prop} {cs : List Value} {x : Wrote} (h : Wrote.W w S cs x) : Wrote.R w S cs x := by
  obtain ⟨A0, n0, c0, lab, rfl, ⟨kh0, mh0, h0⟩⟩ := h
  exact ⟨_, _, _, rfl, ⟨kh0, mh0, h0.sl.mono fun i hi => hi.1⟩⟩
theorem Wrote.R_cells {w : World} {S : Nat → Prop} {cs : List Value} {x : Wrote} (h : Wrote.R w S cs x) : ∃ (A0 : Option Addr) (n0 c0 : Nat), cs = [.int .i64 x.stamp_, .int .i64 x.who_, .slice A0 n0 c0] := by
  obtain ⟨A0, n0, c0, rfl, ⟨kh0, mh0, h0⟩⟩ := h
  exact ⟨A0, n0, c0, rfl⟩
theorem Wrote.W_cells {w : World} {S : Nat → Prop} {cs : List Value} {x : Wrote} (h : Wrote.W w S cs x) : ∃ (A0 : Option Addr) (n0 c0 : Nat), cs = [.int .i64 x.stamp_, .int .i64 x.who_, .slice A0 n0 c0] := by
  obtain ⟨A0, n0, c0, lab, rfl, ⟨kh0, mh0, h0⟩⟩ := h
  exact ⟨A0, n0, c0, rfl⟩
set_option maxRecDepth 8000 in
set_option maxHeartbeats 4000000 in
theorem opens_Wrote : Opens Tryz.prog 127 (fun w cs (x : Wrote) => Wrote.R w (fun _ => True) cs x) := by
  intro H enc w base spare held fuel cs x h
  obtain ⟨xs, n, _, _, hlen, hxl, hf⟩ := DataW.trod_struct Tryz.underlying127 h
  rw [show Tryz.prog.cellsOf 127 = 3 from by kernel_rfl] at hlen
  have hxl' : xs.length = 3 := hxl
  have h0 : DataW.trod enc Tryz.prog w base spare held n 3 ((cs.drop 0).take (Tryz.prog.cellsOf 3)) = xs[0]? := hf 0 _ rfl
  rw [show Tryz.prog.cellsOf 3 = 1 from by kernel_rfl, List.getElem?_eq_getElem (show 0 < xs.length by omega)] at h0
  obtain ⟨f0, e0, -, -⟩ := DataW.trod_int Tryz.underlying3 h0
  have h1 : DataW.trod enc Tryz.prog w base spare held n 3 ((cs.drop 1).take (Tryz.prog.cellsOf 3)) = xs[1]? := hf 1 _ rfl
  rw [show Tryz.prog.cellsOf 3 = 1 from by kernel_rfl, List.getElem?_eq_getElem (show 1 < xs.length by omega)] at h1
  obtain ⟨f1, e1, -, -⟩ := DataW.trod_int Tryz.underlying3 h1
  have h2 : DataW.trod enc Tryz.prog w base spare held n 113 ((cs.drop 2).take (Tryz.prog.cellsOf 113)) = xs[2]? := hf 2 _ rfl
  rw [show Tryz.prog.cellsOf 113 = 1 from by kernel_rfl, List.getElem?_eq_getElem (show 2 < xs.length by omega)] at h2
  obtain ⟨f2, A2, n2, c2, e2, g2, g2', -, -, s2⟩ := opens_flat Tryz.underlying113 (by kernel_rfl) (by omega) Row.cells_length opens_Row H enc w base spare held n _ _ h2
  clear h0 h1 h2 hf h hxl hxl'
  match cs, hlen with
  | [q0, q1, q2], _ =>
    simp only [List.drop_succ_cons, List.drop_zero, List.take_succ_cons, List.take_zero, List.cons.injEq, and_true] at e0 e1 e2
    subst e0
    subst e1
    subst e2
    exact ⟨⟨f0, f1, f2⟩, _, _, _, rfl, ⟨g2, Nat.le_trans g2 g2', s2⟩⟩
set_option maxRecDepth 8000 in
set_option maxHeartbeats 4000000 in
theorem szWrote_any (x : Wrote) (cs : List Value) (q : Int) (w : World) (S : Nat → Prop) (h : Wrote.R w S cs x) (hq0 : 0 ≤ q) (hq2 : q ≤ 1048576) :
    Calls Tryz.prog 50 #[.agg cs.toArray, .int .i64 q] w fun e w' => ∃ r : Int, e = .returned (.int .i64 r) ∧ Left r q (Wrote.wt x) ∧ Ext w w' := by
  obtain ⟨A0, n0, c0, rfl, ⟨kh0, mh0, h0⟩⟩ := h
  have H0 := Lib.hid h0
  clear h0
  show Calls Tryz.prog _ #[.agg #[.int .i64 x.stamp_, .int .i64 x.who_, .slice A0 n0 c0], .int .i64 q] w _
  go_enter Tryz.func50, Tryz.ntmps50
  go_wp2_with fail
  have L0 := Lib.hid (H0.out.flen Row.cells_length (by omega))
  refine (szRowS_any _ _ _ (q) _ hq0 hq2 mh0).mono ?_
  rintro e w1 ⟨rfl, xq⟩
  have x1 := Ext.of_eq xq
  clear xq
  have Q0 : Hid (Left (if (n0 : Int) ≤ q then q - n0 else -1) q (x.puts_.length)) := by show Left _ _ _; rw [L0.out]; exact Left.of_if
  generalize (if (n0 : Int) ≤ q then q - n0 else -1) = r0 at Q0
  have X1 : Ext w w1 := Ext.tr (((Ext.refl' w).al _)) x1
  have b1 : Hid (Bx w1 w.heap.size 127 #[.int .i64 x.stamp_, .int .i64 x.who_, .slice A0 n0 c0]) := Bx.ext (Bx.new' _ _ _ rfl) x1
  clear x1
  have R0 : Hid (Left r0 q (x.puts_.length)) := Q0
  by_cases g0 : 0 ≤ r0
  rotate_left
  · have e0 : r0 = -1 := by have a := R0.out; unfold Left at a; omega
    subst e0
    clear g0
    go_wp2
    go_ret
    exact ⟨-1, rfl, by have a := R0.out; unfold Left Wrote.wt at *; omega, X1⟩
  have u0 : r0 ≤ 1048576 := by have a := R0.out; unfold Left at a; omega
  go_wp2
  go_ret
  exact ⟨r0, rfl, R0.out, X1⟩theorem Wrote.size_info : (Tryz.prog.info? 132).map (·.size) = some 3 := by kernel_rfl
theorem Wrote.size_laws : (Tryz.prog.info? 127).map (·.size) = some 3 := by kernel_rfl
theorem Wrote.W_one {w : World} {S : Nat → Prop} {cs : List Value} {x : Wrote} (h : Wrote.W w S cs x) : ∀ v ∈ cs, v.oneCell' = true := by
  obtain ⟨A0, n0, c0, rfl⟩ := Wrote.W_cells h
  simp [Value.oneCell']
set_option maxRecDepth 8000 in
set_option maxHeartbeats 4000000 in
theorem szWroteS_any (A : Option Addr) (n c : Nat) (l : List Wrote) (q : Int) (w : World) (S : Nat → Prop) (hs : SlR Wrote.R 3 w S A n l) (hm : n ≤ 9223372036854775807) (hq0 : 0 ≤ q) (hq2 : q ≤ 1048576) :
    Calls Tryz.prog 19 #[.slice A n c, .int .i64 q] w fun e w' => ∃ r : Int, e = .returned (.int .i64 r) ∧ Left r q (wtl Wrote.wt l) ∧ Ext w w' := by
  have H := Lib.hid hs.1
  have HL := Lib.hid (wtl_len Wrote.wt l)
  by_cases hn : (n : Int) ≤ q
  rotate_left
  · go_enter Tryz.func19, Tryz.ntmps19
    go_wp2
    go_ret
    exact ⟨-1, by first | rfl | (simp; done) | simp [hn], .inr ⟨by have a := H.out; have b := HL.out; omega, rfl⟩, Ext.refl' _⟩
  have HS := Lib.hid hs
  clear hs
  go_enter Tryz.func19, Tryz.ntmps19
  go_wp2
  go_loopw [1, 5] (fun u i wr => ∃ (k : Nat) (r : Int), k ≤ n ∧ i = .int .i64 k ∧ u = .int .i64 r ∧ 0 ≤ r ∧ r ≤ 1048576 ∧ Hid (r = q - n + k - wtl Wrote.wt (l.take k)) ∧ Ext w wr) (fun _ i _ => n - (intOf i).toNat)
  case atStart => exact ⟨0, q - n, Nat.zero_le _, rfl, rfl, by omega, by omega, by show _ = _; simp [wtl], Ext.refl' _⟩
  case round =>
    obtain ⟨k, r, hk, rfl, rfl, hr0, hr2, HR, hx⟩ := hrel
    have HX := Lib.hid hx
    clear hx
    by_cases hlt : (k : Int) < (n : Int)
    rotate_left
    · have e : Hid (k = n) := by show k = n; omega
      go_wp2
      go_ret
      exact ⟨r, rfl, .inl (by have h1 := HR.out; rw [e.out, ← H.out, List.take_length] at h1; have h2 := H.out; omega), HX.out⟩
    obtain ⟨b, o, rfl⟩ := HS.out.addr (by omega)
    obtain ⟨x, row, hxk, -, hrw, hc⟩ := (HS.out.ext Wrote.R_good HX.out).at_ (k := k) (by omega)
    have hrg := Lib.hid (SlR.range Wrote.R_good hrw hc)
    have hln : Hid ((Tryz.prog.info? 127).map (·.size) = some row.length) := by show _ = _; rw [Wrote.R_good.len hrw]; exact Wrote.size_laws
    have HRW := Lib.hid hrw
    have HW := Lib.hid (wtl_take Wrote.wt hxk)
    have HLE := Lib.hid (wtl_le Wrote.wt l (k + 1))
    have HTL := Lib.hid (wtl_len Wrote.wt (l.drop (k + 1)))
    clear hrw hc hxk
    go_wp2_with (refine wpList_load_mid rfl 127 _ rfl b (o + k * 3) rfl row _ hrg.out Tryz.underlying127 rfl hln.out ?_)
    refine (szWrote_any x _ r _ S HRW.out hr0 hr2).mono ?_
    rintro e w2 ⟨r2, rfl, Q, x2⟩
    have X2 := Lib.hid (HX.out.tr x2)
    have HQ := Lib.hid Q
    clear x2 Q
    by_cases g : 0 ≤ r2
    rotate_left
    · have e : r2 = -1 := by have a := HQ.out; unfold Left at a; omega
      subst e
      clear g
      go_wp2
      go_ret
      exact ⟨-1, rfl, .inr ⟨by have a := HQ.out; have b := HW.out; have c := HR.out; have d := HLE.out; have e := H.out; have f := wtl_rest Wrote.wt l (k + 1); unfold Left at a; omega, rfl⟩, X2.out⟩
    have g2 : r2 ≤ 1048576 := by have a := HQ.out; unfold Left at a; omega
    go_wp2
    go_roundw
    case rel => exact ⟨k + 1, r2, by omega, by go_num, rfl, g, g2, by show _ = _; have a := HQ.out; have b := HW.out; have c := HR.out; unfold Left at a; omega, X2.out⟩
    case measure => simp [intOf]; omega
set_option maxRecDepth 8000 in
set_option maxHeartbeats 8000000 in
theorem toWrote_any (x : Wrote) (cs : List Value) (w : World) (S : Nat → Prop) (h : Wrote.R w S cs x) (hw : Wrote.wt x ≤ 1048576) :
    Calls Tryz.prog 64 #[.agg cs.toArray] w fun e w' => ∃ cs', e = .returned (.agg cs'.toArray) ∧ Wrote.W w' (fun g => w.heap.size ≤ g ∧ g < w'.heap.size) cs' x ∧ Ext w w' := by
  obtain ⟨A0, n0, c0, rfl, ⟨kh0, mh0, h0⟩⟩ := h
  unfold Wrote.wt at hw
  have l0 := h0.flen Row.cells_length (by omega)
  have n_0 : n0 ≤ 1048576 := by omega
  have H0 := Lib.hid h0
  clear h0 hw l0
  show Calls Tryz.prog _ #[.agg #[.int .i64 x.stamp_, .int .i64 x.who_, .slice A0 n0 c0]] w _
  go_enter Tryz.func64, Tryz.ntmps64
  go_wp2_with fail
  refine (toRowS_any _ _ _ _ _ S (H0.out.ext ((((Ext.refl' w).al _).al _).al _)) n_0).mono ?_
  rintro e w1 ⟨B0, d0, rfl, o0, x1⟩
  have K0 : Hid (n0 ≤ d0) := own_cap o0
  replace o0 := Lib.hid (OwS.of_own o0)
  have z1 : w.heap.size + 3 ≤ w1.heap.size := by have h := x1.size; (try simp at h); omega
  have ba1 : Hid (Bx w1 (w.heap.size) 127 #[.int .i64 x.stamp_, .int .i64 x.who_, .slice A0 n0 c0]) := Bx.ext (((Bx.new' _ _ _ rfl).al _).al _) x1
  have br1 : Hid (Bx w1 (w.heap.size + 1) 132 #[.int .i64 0, .int .i64 0, .slice none 0 0]) := Bx.ext ((Bx.new' _ _ _ (by simp)).al _) x1
  have bo1 : Hid (Bx w1 (w.heap.size + 2) 132 #[.int .i64 x.stamp_, .int .i64 x.who_, .slice none 0 0]) := Bx.ext (Bx.new' _ _ _ (by simp)) x1
  have X1 : Ext w w1 := Ext.tr ((((Ext.refl' w).al _).al _).al _) x1
  replace o0 : Hid (OwS w1 (fun g => w.heap.size + 3 ≤ g ∧ g < w1.heap.size) 87 2 B0 n0 d0 (x.puts_.flatMap Row.cells)) := o0.out.mono (fun g _ hg => by have h1 := hg.1; have h2 := hg.2; constructor <;> (try simp at h1) <;> omega)
  clear x1
  have co1_0 : w1.cell? ⟨w.heap.size + 2, 0, none⟩ = some (.int .i64 x.stamp_) := bo1.out.cell 0
  have co1_1 : w1.cell? ⟨w.heap.size + 2, 1, none⟩ = some (.int .i64 x.who_) := bo1.out.cell 1
  have co1_2 : w1.cell? ⟨w.heap.size + 2, 2, none⟩ = some (.slice none 0 0) := bo1.out.cell 2
  have fo1_2 : w1.frozen? ⟨w.heap.size + 2, 2, none⟩ = false := bo1.out.frozen 2
  have cr1_0 : w1.cell? ⟨w.heap.size + 1, 0, none⟩ = some (.int .i64 0) := br1.out.cell 0
  have fr1_0 : w1.frozen? ⟨w.heap.size + 1, 0, none⟩ = false := br1.out.frozen 0
  have cr1_1 : w1.cell? ⟨w.heap.size + 1, 1, none⟩ = some (.int .i64 0) := br1.out.cell 1
  have fr1_1 : w1.frozen? ⟨w.heap.size + 1, 1, none⟩ = false := br1.out.frozen 1
  have cr1_2 : w1.cell? ⟨w.heap.size + 1, 2, none⟩ = some (.slice none 0 0) := br1.out.cell 2
  have fr1_2 : w1.frozen? ⟨w.heap.size + 1, 2, none⟩ = false := br1.out.frozen 2
  go_wp2
  refine bodyPost_ret (v := .agg #[.int .i64 x.stamp_, .int .i64 x.who_, .slice B0 n0 d0]) (by simp [results, Tryz.results64, go_sem, cr1_0, cr1_1, cr1_2]) rfl ⟨[.int .i64 x.stamp_, .int .i64 x.who_, .slice B0 n0 d0], rfl, ?_, ?_⟩
  · refine (?_ : ∀ wz, Chg (fun g => g = w.heap.size + 2 ∨ g = w.heap.size + 1) w1 wz → Wrote.W wz (fun g => w.heap.size ≤ g ∧ g < wz.heap.size) [.int .i64 x.stamp_, .int .i64 x.who_, .slice B0 n0 d0] x) _ (((((Chg.refl (fun g => g = w.heap.size + 2 ∨ g = w.heap.size + 1) _).sc (by first | (simp; done) | (simp; omega)) _).sc (by first | (simp; done) | (simp; omega)) _).sc (by first | (simp; done) | (simp; omega)) _).sc (by first | (simp; done) | (simp; omega)) _)
    intro wz cc
    have zz := cc.size
    exact ⟨B0, n0, d0, lb [w1.heap.size], rfl, ⟨K0.out, mh0, (o0.out.chg cc (fun g hg q => by have h1 := hg.1; have hq3 : g = w.heap.size + 2 ∨ g = w.heap.size + 1 := q; omega)).mono (fun g _ hg => ⟨⟨by have h1 := hg.1; omega, by have h2 := hg.2; omega⟩, by have h1 := hg.1; have h2 := hg.2; exact lb_here (by omega)⟩)⟩⟩
  · exact ((((X1).sc (by first | (simp; done) | (simp; omega)) _).sc (by first | (simp; done) | (simp; omega)) _).sc (by first | (simp; done) | (simp; omega)) _).sc (by first | (simp; done) | (simp; omega)) _
theorem Tryz.infoWrote : (Tryz.prog.info? 132).map (fun i => (i.zero, i.size, i.bytes)) = some (some (.agg #[.int .i64 0, .int .i64 0, .slice none 0 0]), 3, 40) := by kernel_rfl
set_option maxRecDepth 8000 in
set_option maxHeartbeats 8000000 in
theorem toWroteS_any (A : Option Addr) (n c : Nat) (l : List Wrote) (w : World) (S : Nat → Prop) (hs : SlR Wrote.R 3 w S A n l) (hm : n ≤ 1048576) (hw : wtl Wrote.wt l ≤ 1048576) :
    Calls Tryz.prog 32 #[.slice A n c] w fun e w' => ∃ B d, e = .returned (.slice B n d) ∧ SlW Wrote.W 132 3 w' (fun g => w.heap.size ≤ g ∧ g < w'.heap.size) B n d l ∧ Ext w w' := by
  obtain ⟨w1, cs0, hmk, hown, -, hx1, hlt⟩ := made_row (P := Tryz.prog) w 54 132 _ _ _ Tryz.underlying54 Tryz.infoWrote n (by omega) (by unfold maxLen; omega)
  have HO := Lib.hid hown
  have HX := Lib.hid hx1
  have HS := Lib.hid hs
  have HLL := Lib.hid hs.1
  have HW0 := Lib.hid hw
  clear hown hx1 hs hw
  go_enter Tryz.func32, Tryz.ntmps32
  go_wp2
  go_loopw [4] (fun i wr => ∃ (k : Nat) (cs : List Value) (lab : Nat → Nat), k ≤ n ∧ i = .int .i64 k ∧ Hid (wr.ownsRow w.heap.size 132 3 (.slice (some ⟨w.heap.size, 0, none⟩) n n) n cs) ∧ Hid (WRows Wrote.W 3 wr (fun g => w.heap.size < g ∧ g < wr.heap.size) lab cs l k) ∧ Ext w wr) (fun i _ => n - (intOf i).toNat)
  case atStart => exact ⟨0, _, fun _ => 0, Nat.zero_le _, rfl, HO, WRows.zero _ _ _ _ _ _ _, HX.out⟩
  case round =>
    obtain ⟨k, cs, lab, hk, rfl, HO2, HU, hx⟩ := hrel
    have HX2 := Lib.hid hx
    clear hx
    by_cases hlt : (k : Int) < (n : Int)
    rotate_left
    · have e : Hid (k = n) := by show k = n; omega
      go_wp2
      go_ret
      refine ⟨_, _, rfl, ⟨HLL.out, cs, fun g => if w.heap.size < g then lab g else 0, ⟨own_base HO2.out (Nat.zero_le _), fun g hg => ?_⟩, fun i hi x hxi => ?_⟩, HX2.out⟩
      · have e : some w.heap.size = some g := hg
        injection e with e
        subst e
        exact ⟨⟨Nat.le_refl _, (HO2.out.lt _ rfl).2⟩, if_neg (Nat.lt_irrefl _)⟩
      · obtain ⟨row, hr, hj⟩ := HU.out i (by have h := e.out; omega) x hxi
        exact ⟨row, Wrote.W_good.mono hr fun g hg => ⟨⟨by have h := hg.1.1; omega, hg.1.2⟩, (if_pos hg.1.1).trans hg.2⟩, hj⟩
    obtain ⟨b, o, rfl⟩ := HS.out.addr (by omega)
    obtain ⟨x, row, hxk, -, hrw, hc⟩ := (HS.out.ext Wrote.R_good HX2.out).at_ (k := k) (by omega)
    have hrg := Lib.hid (SlR.range Wrote.R_good hrw hc)
    have hln : Hid ((Tryz.prog.info? 127).map (·.size) = some row.length) := by show _ = _; rw [Wrote.R_good.len hrw]; exact Wrote.size_laws
    have HRW := Lib.hid hrw
    have HXK := Lib.hid hxk
    have HKW := Lib.hid (Nat.le_trans (wtl_at Wrote.wt hxk) HW0.out)
    have HLT : Hid (k < n) := by show k < n; omega
    clear hrw hc hxk
    go_wp2_with (refine wpList_load_mid rfl 127 _ rfl b (o + k * 3) rfl row _ hrg.out Tryz.underlying127 rfl hln.out ?_)
    refine (toWrote_any x _ _ S HRW.out HKW.out).mono ?_
    rintro e w2 ⟨cv, rfl, hW, hx2⟩
    have HWW := Lib.hid hW
    have HO3 := Lib.hid (own_ext HO2.out hx2)
    have z0 : w.heap.size < wr.heap.size := (HO2.out.lt _ rfl).2
    have z1 : wr.heap.size ≤ w2.heap.size := hx2.size
    have HX3 := Lib.hid hx2
    have hcz : cv.toArray.size = 3 := Eq.trans (List.size_toArray ..) (Wrote.W_good.len hW)
    have hth : Hid (w2.there w.heap.size (k * 3) cv.toArray.size) := by show World.there _ _ _ _; rw [hcz]; exact own_there HO3.out HLT.out
    have hsz : Hid ((Tryz.prog.info? 132).map (·.size) = some cv.toArray.size) := by show _ = _; rw [hcz]; exact Wrote.size_info
    have hon : Hid (cv.toArray.all (·.oneCell') = true) := all_oneCell_toArray (Wrote.W_one hW)
    clear hx2 hW hcz
    go_wp2_with (refine wpList_store_mid rfl 132 _ _ rfl w.heap.size (k * 3) cv.toArray rfl rfl hth.out hsz.out hon.out ?_)
    go_roundw
    case rel =>
      have hl3 : cs.length = n * 3 := HO2.out.1
      have hkn := HLT.out
      have hcl := Wrote.W_good.len HWW.out
      have cc : Chg (fun g => g = w.heap.size) w2 (w2.setCells w.heap.size (k * 3) cv) := Chg.cells (S := fun g => g = w.heap.size) rfl cv _ (Chg.refl _ _)
      have hsize : w2.heap.size ≤ (w2.setCells w.heap.size (k * 3) cv).heap.size := cc.size
      refine ⟨k + 1, putAt cs (k * 3) cv, _, by omega, by go_num, Lib.hid (own_cells cv (k * 3) HO3.out), Lib.hid (WRows.step (b := wr.heap.size) Wrote.W_good HU.out (fun g hg => hg.2) (Chg.trans (HX3.out.chg _) cc) (fun g hg q => by have h1 := hg.1; have h2 : g = w.heap.size := q; omega) (fun g hg => ⟨hg.1, by have h := hg.2; show g < (w2.setCells _ _ cv).heap.size; omega⟩) HXK.out (Wrote.W_good.mono (Wrote.W_good.chg HWW.out cc (fun g hg q => by have h1 := hg.1; have h2 : g = w.heap.size := q; omega)) (fun g hg => ⟨⟨by have h1 := hg.1; omega, by have h := hg.2; show g < (w2.setCells _ _ cv).heap.size; omega⟩, hg.1⟩)) (fun j hj => putAt_lt _ _ _ _ hj) (fun j hj => putAt_at _ _ _ _ (by omega) (by omega))), ?_⟩
      exact (HX2.out.tr HX3.out).cells (Nat.le_refl _) cv _
    case measure => have h := HLT.out; simp [intOf]; omega
set_option maxRecDepth 8000 in
set_option maxHeartbeats 8000000 in
theorem eqWrote_same (x : Wrote) (cs cs' : List Value) (w : World) (S S' : Nat → Prop) (h : Wrote.R w S cs x) (u : Wrote.R w S' cs' x) :
    Calls Tryz.prog 85 #[.agg cs.toArray, .agg cs'.toArray] w fun e w' => e = .returned (.bool true) ∧ Ext w w' := by
  obtain ⟨A0, n0, c0, rfl, ⟨kh0, mh0, h0⟩⟩ := h
  obtain ⟨B0, p0, d0, rfl, ⟨ku0, mu0, u0⟩⟩ := u
  obtain rfl : n0 = p0 := by have a := h0.flen Row.cells_length (by omega); have b := u0.flen Row.cells_length (by omega); omega
  have H0 := Lib.hid h0
  have U0 := Lib.hid u0
  clear h0 u0
  show Calls Tryz.prog _ #[.agg #[.int .i64 x.stamp_, .int .i64 x.who_, .slice A0 n0 c0], .agg #[.int .i64 x.stamp_, .int .i64 x.who_, .slice B0 n0 d0]] w _
  go_enter Tryz.func85, Tryz.ntmps85
  go_wp2_with fail
  refine (eqRowS_same _ _ _ _ _ _ _ S S' (H0.out.ext (((Ext.refl' w).al _).al _)) (U0.out.ext (((Ext.refl' w).al _).al _)) mh0).mono ?_
  rintro e w1 ⟨rfl, x1⟩
  have z1 : w.heap.size + 2 ≤ w1.heap.size := by have h := x1.size; (try simp at h); omega
  have ba1 : Hid (Bx w1 (w.heap.size) 132 #[.int .i64 x.stamp_, .int .i64 x.who_, .slice A0 n0 c0]) := Bx.ext ((Bx.new' _ _ _ rfl).al _) x1
  have bb1 : Hid (Bx w1 (w.heap.size + 1) 132 #[.int .i64 x.stamp_, .int .i64 x.who_, .slice B0 n0 d0]) := Bx.ext (Bx.new' _ _ _ (by simp)) x1
  have X1 : Ext w w1 := Ext.tr (((Ext.refl' w).al _).al _) x1
  clear x1
  go_wp2
  go_ret
  exact ⟨rfl, X1⟩
set_option maxRecDepth 8000 in
set_option maxHeartbeats 8000000 in
theorem eqWroteS_same (A B : Option Addr) (n c d : Nat) (l : List Wrote) (w : World) (S S' : Nat → Prop) (ha : SlR Wrote.R 3 w S A n l) (hb : SlR Wrote.R 3 w S' B n l) (hm : n ≤ 9223372036854775807) :
    Calls Tryz.prog 45 #[.slice A n c, .slice B n d] w fun e w' => e = .returned (.bool true) ∧ Ext w w' := by
  have HA := Lib.hid ha
  have HB := Lib.hid hb
  clear ha hb
  go_enter Tryz.func45, Tryz.ntmps45
  go_wp2
  go_loopw [5] (fun i wr => ∃ (k : Nat), k ≤ n ∧ i = .int .i64 k ∧ Ext w wr) (fun i _ => n - (intOf i).toNat)
  case atStart => exact ⟨0, Nat.zero_le _, rfl, Ext.refl' _⟩
  case round =>
    obtain ⟨k, hk, rfl, hx⟩ := hrel
    have HX := Lib.hid hx
    clear hx
    by_cases hlt : (k : Int) < (n : Int)
    rotate_left
    · go_wp2
      go_ret
      exact ⟨rfl, HX.out⟩
    obtain ⟨b, o, rfl⟩ := HA.out.addr (by omega)
    obtain ⟨b2, o2, rfl⟩ := HB.out.addr (by omega)
    obtain ⟨x, row, hxk, -, hrw, hc⟩ := (HA.out.ext Wrote.R_good HX.out).at_ (k := k) (by omega)
    obtain ⟨y, row2, hyk, -, hrw2, hc2⟩ := (HB.out.ext Wrote.R_good HX.out).at_ (k := k) (by omega)
    rw [hxk] at hyk
    injection hyk with hyk
    subst hyk
    have rx := Lib.hid (SlR.range Wrote.R_good hrw hc)
    have ry := Lib.hid (SlR.range Wrote.R_good hrw2 hc2)
    have RX := Lib.hid hrw
    have RY := Lib.hid hrw2
    have l1 : Hid ((Tryz.prog.info? 132).map (·.size) = some row.length) := by show _ = _; rw [Wrote.R_good.len hrw]; exact Wrote.size_info
    have l2 : Hid ((Tryz.prog.info? 132).map (·.size) = some row2.length) := by show _ = _; rw [Wrote.R_good.len hrw2]; exact Wrote.size_info
    have KX : Hid (∀ wq, Ext wr wq → wq.rangeAt b (o + k * 3) row) := fun wq q j v hv => q.co (rx.out j v hv)
    have KY : Hid (∀ wq, Ext wr wq → wq.rangeAt b2 (o2 + k * 3) row2) := fun wq q j v hv => q.co (ry.out j v hv)
    have hk0 : (0 : Int) ≤ (k : Int) := by omega
    clear hrw hrw2 hc hc2 hxk
    go_wp2
    refine region_class (fun w' => Ext wr w') (by kernel_rfl) (by kernel_rfl) ((Ext.refl' _).dr) ?_
    repeat (first | go_big_quiet_skip | (go_big_quiet_want; first | (refine quiet_load 132 _ rfl b (o + k * 3) rfl row _ KX.out Tryz.underlying132 rfl l1.out ?_; (try simp only [Act.put, List.setIfInBounds_toArray, List.set_cons_zero, List.set_cons_succ]); go_big_quiet_on) | (refine quiet_load 132 _ rfl b2 (o2 + k * 3) rfl row2 _ KY.out Tryz.underlying132 rfl l2.out ?_; (try simp only [Act.put, List.setIfInBounds_toArray, List.set_cons_zero, List.set_cons_succ]); go_big_quiet_on) | (unfold Oper.quiet; apply Exists.intro; refine ⟨fun wq hq => ?_, ?_⟩; (go_simp; first | done | rfl | (go_at_call 85; exact (eqWrote_same x row row2 _ S S' (Wrote.R_good.ext RX.out hq) (Wrote.R_good.ext RY.out hq)).mono fun e w2 h2 => ⟨h2.1, hq.tr h2.2⟩)); (try simp only [Act.put, List.setIfInBounds_toArray, List.set_cons_zero, List.set_cons_succ]); go_big_quiet_on)))
    refine wpQuiet_nil ?_
    intro wq hq
    have XE := Lib.hid hq
    clear hq
    go_wp2
    go_roundw
    case rel => exact ⟨k + 1, by omega, by go_num, HX.out.tr XE.out⟩
    case measure => simp [intOf]; omega

end Go.Proofs.YtglplgbhhnmgbaaGreat
