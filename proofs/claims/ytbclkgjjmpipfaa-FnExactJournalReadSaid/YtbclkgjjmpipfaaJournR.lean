/- The laws' helpers on Wrote. No condition but lengths. -/
import Derived.Test.YtbclkgjjmpipfaaJournT
import Derived.Test.YtbclkgjjmpipfaaIn
namespace Go.Proofs.Ytbclkgjjmpipfaa
open Go.RowKit Go.Deep

set_option maxHeartbeats 1000000 in
theorem opens_Wrote (H : Type) (enc : TypeId × Value → H) (w : World) (base : Nat) (spare : Nat → Bool) (held : Bool) (fuel : Nat) (cs : List Value) (x : DataW H × List MemPlace)
    (h : DataW.trod enc Try.prog w base spare held fuel 28 cs = some x) : ∃ (f0 : Int) (f1 : Int) (A0 : Option Addr) (n0 c0 : Nat) (l0 : List Row), cs = [.int .i64 f0, .int .i64 f1, .slice A0 n0 c0] ∧ (n0 ≤ c0 ∧ c0 ≤ maxLen ∧ Sl w (fun _ => True) 2 A0 n0 (l0.flatMap Row.cells)) := by
  obtain ⟨xs, n, _, _, hlen, hxl, hf⟩ := DataW.trod_struct Try.underlying28 h
  rw [show Try.prog.cellsOf 28 = 3 from by kernel_rfl] at hlen
  have hxl' : xs.length = 3 := hxl
  have h0 : DataW.trod enc Try.prog w base spare held n 3 ((cs.drop 0).take (Try.prog.cellsOf 3)) = xs[0]? := hf 0 _ rfl
  rw [show Try.prog.cellsOf 3 = 1 from by kernel_rfl, List.getElem?_eq_getElem (show 0 < xs.length by omega)] at h0
  obtain ⟨f0, e0, -, -⟩ := DataW.trod_int Try.underlying3 h0
  have h1 : DataW.trod enc Try.prog w base spare held n 3 ((cs.drop 1).take (Try.prog.cellsOf 3)) = xs[1]? := hf 1 _ rfl
  rw [show Try.prog.cellsOf 3 = 1 from by kernel_rfl, List.getElem?_eq_getElem (show 1 < xs.length by omega)] at h1
  obtain ⟨f1, e1, -, -⟩ := DataW.trod_int Try.underlying3 h1
  have h2 : DataW.trod enc Try.prog w base spare held n 26 ((cs.drop 2).take (Try.prog.cellsOf 26)) = xs[2]? := hf 2 _ rfl
  rw [show Try.prog.cellsOf 26 = 1 from by kernel_rfl, List.getElem?_eq_getElem (show 2 < xs.length by omega)] at h2
  obtain ⟨l0, A0, n0, c0, e2, g0, g0', -, -, s0⟩ := opens_flat Try.underlying26 (by kernel_rfl) (by omega) Row.cells_length opens_Row H enc w base spare held n _ _ h2
  clear h0 h1 h2 hf h hxl hxl'
  match cs, hlen with
  | [q0, q1, q2], _ =>
    simp only [List.drop_succ_cons, List.drop_zero, List.take_succ_cons, List.take_zero, List.cons.injEq, and_true] at e0 e1 e2
    subst e0
    subst e1
    subst e2
    exact ⟨_, _, _, _, _, l0, rfl, ⟨g0, g0', s0⟩⟩
set_option maxHeartbeats 4000000 in
theorem szWrote_yes (f0 : Int) (f1 : Int) (A0 : Option Addr) (n0 c0 : Nat) (q : Int) (w : World) (hm0 : n0 ≤ 9223372036854775807) (hq0 : 0 ≤ q) (hq2 : q ≤ 1048576) (hq : (n0 : Int) ≤ q) :
    Calls Try.prog 14 #[.agg #[.int .i64 f0, .int .i64 f1, .slice A0 n0 c0], .int .i64 q] w fun e w' => e = .returned (.int .i64 (q - (n0 : Int))) ∧ Ext w w' := by
  go_enter Try.func14, Try.ntmps14
  go_wp2_with fail
  refine (szRowS_any _ _ _ (q) _ (by omega) (by omega) hm0).mono ?_
  rintro e w' ⟨rfl, rfl⟩
  rw [if_pos (by omega)]
  go_wp2
  go_ret
  exact ⟨by first | rfl | simp, (Ext.refl' w).al _⟩

set_option maxHeartbeats 4000000 in
theorem szWrote_no (f0 : Int) (f1 : Int) (A0 : Option Addr) (n0 c0 : Nat) (q : Int) (w : World) (hm0 : n0 ≤ 9223372036854775807) (hq0 : 0 ≤ q) (hq2 : q ≤ 1048576) (hq : q < (n0 : Int)) :
    Calls Try.prog 14 #[.agg #[.int .i64 f0, .int .i64 f1, .slice A0 n0 c0], .int .i64 q] w fun e w' => e = .returned (.int .i64 (-1)) ∧ Ext w w' := by
  go_enter Try.func14, Try.ntmps14
  go_wp2_with fail
  refine (szRowS_any _ _ _ (q) _ (by omega) (by omega) hm0).mono ?_
  rintro e w' ⟨rfl, rfl⟩
  rw [if_neg (by omega)]
  go_wp2
  go_ret
  exact ⟨by first | rfl | simp, (Ext.refl' w).al _⟩
set_option maxHeartbeats 4000000 in
theorem toWrote_any (f0 : Int) (f1 : Int) (A0 : Option Addr) (n0 c0 : Nat) (l0 : List Row) (w : World) (S0 : Nat → Prop) (hs0 : Sl w S0 2 A0 n0 (l0.flatMap Row.cells)) (hm0 : n0 ≤ 1048576) :
    Calls Try.prog 16 #[.agg #[.int .i64 f0, .int .i64 f1, .slice A0 n0 c0]] w fun e w' => ∃ B0 d0, e = .returned (.agg #[.int .i64 f0, .int .i64 f1, .slice B0 n0 d0]) ∧ w'.ownsRow w.heap.size 62 2 (.slice B0 n0 d0) n0 (l0.flatMap Row.cells) ∧ Hid (True) ∧ Ext w w' := by
  go_enter Try.func16, Try.ntmps16
  go_wp2_with fail
  refine (toRowS_any _ _ _ _ _ S0 (hs0.ext ((((Ext.refl' w).al _).al _).al _)) hm0).mono ?_
  rintro e w1 ⟨B0, d0, rfl, o0, x1⟩
  have z1 : w.heap.size + 3 ≤ w1.heap.size := by have h := x1.size; (try simp at h); omega
  have ba1 : Hid (Bx w1 (w.heap.size) 28 #[.int .i64 f0, .int .i64 f1, .slice A0 n0 c0]) := Bx.ext (((Bx.new' _ _ _ rfl).al _).al _) x1
  have br1 : Hid (Bx w1 (w.heap.size + 1) 33 #[.int .i64 0, .int .i64 0, .slice none 0 0]) := Bx.ext ((Bx.new' _ _ _ (by simp)).al _) x1
  have bo1 : Hid (Bx w1 (w.heap.size + 2) 33 #[.int .i64 f0, .int .i64 f1, .slice none 0 0]) := Bx.ext (Bx.new' _ _ _ (by simp)) x1
  have X1 : Ext w w1 := Ext.tr ((((Ext.refl' w).al _).al _).al _) x1
  have O0 : Hid (∀ g, (Value.slice B0 n0 d0).ownBlock = some g → w.heap.size + 3 ≤ g ∧ g < w1.heap.size) := fun g hg => by have h1 := o0.lt g hg; simp at h1; omega
  replace o0 := own_base o0 (b' := w.heap.size) (by simp; try omega)
  clear x1
  have co1_0 : w1.cell? ⟨w.heap.size + 2, 0, none⟩ = some (.int .i64 f0) := bo1.out.cell 0
  have co1_1 : w1.cell? ⟨w.heap.size + 2, 1, none⟩ = some (.int .i64 f1) := bo1.out.cell 1
  have co1_2 : w1.cell? ⟨w.heap.size + 2, 2, none⟩ = some (.slice none 0 0) := bo1.out.cell 2
  have fo1_2 : w1.frozen? ⟨w.heap.size + 2, 2, none⟩ = false := bo1.out.frozen 2
  have cr1_0 : w1.cell? ⟨w.heap.size + 1, 0, none⟩ = some (.int .i64 0) := br1.out.cell 0
  have fr1_0 : w1.frozen? ⟨w.heap.size + 1, 0, none⟩ = false := br1.out.frozen 0
  have cr1_1 : w1.cell? ⟨w.heap.size + 1, 1, none⟩ = some (.int .i64 0) := br1.out.cell 1
  have fr1_1 : w1.frozen? ⟨w.heap.size + 1, 1, none⟩ = false := br1.out.frozen 1
  have cr1_2 : w1.cell? ⟨w.heap.size + 1, 2, none⟩ = some (.slice none 0 0) := br1.out.cell 2
  have fr1_2 : w1.frozen? ⟨w.heap.size + 1, 2, none⟩ = false := br1.out.frozen 2
  have Ho01 := Lib.hid o0
  clear o0
  go_wp2
  refine bodyPost_ret (v := .agg #[.int .i64 f0, .int .i64 f1, .slice (B0) n0 d0]) (by simp [results, Try.results16, go_sem, cr1_0, cr1_1, cr1_2]) rfl ⟨_, _, rfl, ?_⟩
  refine ⟨own_chg Ho01.out (((((Chg.refl (fun g => g = w.heap.size + 2 ∨ g = w.heap.size + 1) _).sc (by first | (simp; done) | (simp; omega)) _).sc (by first | (simp; done) | (simp; omega)) _).sc (by first | (simp; done) | (simp; omega)) _).sc (by first | (simp; done) | (simp; omega)) _) (fun g hg q => by have h1 := (O0.out g hg).1; have hq3 : g = w.heap.size + 2 ∨ g = w.heap.size + 1 := q; omega), trivial, ?_⟩
  exact ((((X1).sc (by first | (simp; done) | (simp; omega)) _).sc (by first | (simp; done) | (simp; omega)) _).sc (by first | (simp; done) | (simp; omega)) _).sc (by first | (simp; done) | (simp; omega)) _
set_option maxHeartbeats 4000000 in
theorem eqWrote_same (f0 : Int) (f1 : Int) (A0 : Option Addr) (n0 c0 : Nat) (l0 : List Row) (B0 : Option Addr) (d0 : Nat) (w : World) (S0 : Nat → Prop) (hs0 : Sl w S0 2 A0 n0 (l0.flatMap Row.cells)) (hm0 : n0 ≤ 1048576) (T0 : Nat → Prop) (ht0 : Sl w T0 2 B0 n0 (l0.flatMap Row.cells)) :
    Calls Try.prog 18 #[.agg #[.int .i64 f0, .int .i64 f1, .slice A0 n0 c0], .agg #[.int .i64 f0, .int .i64 f1, .slice B0 n0 d0]] w fun e w' => e = .returned (.bool true) ∧ Ext w w' := by
  go_enter Try.func18, Try.ntmps18
  go_wp2_with fail
  refine (eqRowS_same _ _ _ _ _ _ _ S0 T0 (hs0.ext (((Ext.refl' w).al _).al _)) (ht0.ext (((Ext.refl' w).al _).al _)) (by omega)).mono ?_
  rintro e w1 ⟨rfl, x1⟩
  have z1 : w.heap.size + 2 ≤ w1.heap.size := by have h := x1.size; (try simp at h); omega
  have ba1 : Hid (Bx w1 (w.heap.size) 33 #[.int .i64 f0, .int .i64 f1, .slice A0 n0 c0]) := Bx.ext ((Bx.new' _ _ _ rfl).al _) x1
  have bb1 : Hid (Bx w1 (w.heap.size + 1) 33 #[.int .i64 f0, .int .i64 f1, .slice B0 n0 d0]) := Bx.ext (Bx.new' _ _ _ (by simp)) x1
  have X1 : Ext w w1 := Ext.tr (((Ext.refl' w).al _).al _) x1
  clear x1
  go_wp2
  go_ret
  exact ⟨rfl, X1⟩
set_option maxHeartbeats 4000000 in
theorem markWrote_any (f0 : Int) (f1 : Int) (A0 : Option Addr) (n0 c0 : Nat) (l0 : List Row) (base : Nat) (q : Int) (w : World) (o0 : w.ownsRow base 62 2 (.slice A0 n0 c0) n0 (l0.flatMap Row.cells)) (_ap : Hid (True)) (hq : 0 ≤ q) (hqn : q + (n0 : Int) * 2 ≤ 9007199254740992) :
    Calls Try.prog 21 #[.agg #[.int .i64 f0, .int .i64 f1, .slice A0 n0 c0], .int .i64 q] w fun e w' => e = .returned (.int .i64 (q + (n0 : Int) * 2)) ∧ w'.ownsRow base 62 2 (.slice A0 n0 c0) n0 ((Row.marks (q) n0).flatMap Row.cells) ∧ Chg (fun k => (Value.slice A0 n0 c0).ownBlock = some k) w w' := by
  have B0 := Lib.hid o0.lt
  have H0 := Lib.hid o0
  clear o0
  go_enter Try.func21, Try.ntmps21
  go_wp2_with fail
  refine (markRowS_any _ _ _ base _ (q) _ (H0.out.alloc _) (by omega) (by omega)).mono ?_
  rintro e w1 ⟨rfl, m0, cc0⟩
  have M0 := Lib.hid m0
  have C0 := Lib.hid cc0
  have b1 : Hid (Bx w1 w.heap.size 33 #[.int .i64 f0, .int .i64 f1, .slice A0 n0 c0]) := Bx.chg (Bx.new' _ _ _ rfl) cc0 (fun q => by have h := (B0.out _ q).2; omega)
  clear m0 cc0
  go_wp2
  go_ret
  exact ⟨rfl, M0.out, Chg.trans ((Chg.refl _ w).al _) (C0.out.mono fun k h => h)⟩
set_option maxHeartbeats 4000000 in
theorem heldWrote_any (f0 : Int) (f1 : Int) (A0 : Option Addr) (n0 c0 : Nat) (q : Int) (w : World) (S0 : Nat → Prop) (hs0 : Sl w S0 2 A0 n0 ((Row.marks (q) n0).flatMap Row.cells)) (hq : 0 ≤ q) (hqn : q + (n0 : Int) * 2 ≤ 9007199254740992) :
    Calls Try.prog 22 #[.agg #[.int .i64 f0, .int .i64 f1, .slice A0 n0 c0], .int .i64 q] w fun e w' => e = .returned (.int .i64 (q + (n0 : Int) * 2)) ∧ Ext w w' := by
  go_enter Try.func22, Try.ntmps22
  have p1 : (0 : Int) ≤ q + (n0 : Int) * 2 := by omega
  go_wp2_with fail
  refine (heldRowS_any _ _ _ (q) _ S0 (hs0.ext ((Ext.refl' w).al _)) (by omega) (by omega)).mono ?_
  rintro e w1 ⟨rfl, x1⟩
  have b1 : Hid (Bx w1 w.heap.size 33 #[.int .i64 f0, .int .i64 f1, .slice A0 n0 c0]) := Bx.ext (Bx.new' _ _ _ rfl) x1
  have X1 : Ext w w1 := Ext.tr ((Ext.refl' w).al _) x1
  clear x1
  go_wp2
  go_ret
  exact ⟨rfl, X1⟩
end Go.Proofs.Ytbclkgjjmpipfaa
