/- The laws' helpers on Deque. No condition but lengths. -/
import Derived.Test.YtkkcgpoakhllkaaDequeT
import Derived.Test.YtkkcgpoakhllkaaIn
import Derived.Test.YtkkcgpoakhllkaaSzInts
namespace Go.Proofs.Ytkkcgpoakhllkaa
open Go.RowKit Go.Deep

set_option maxHeartbeats 1000000 in
theorem opens_Deque (H : Type) (enc : TypeId × Value → H) (w : World) (base : Nat) (spare : Nat → Bool) (held : Bool) (fuel : Nat) (cs : List Value) (x : DataW H × List MemPlace)
    (h : DataW.trod enc Try.prog w base spare held fuel 35 cs = some x) : ∃ (f0 : Int) (f1 : Int) (f2 : Int) (f4 : Int) (f5 : Int) (f6 : Int) (A0 : Option Addr) (n0 c0 : Nat) (l0 : List Int) (A1 : Option Addr) (n1 c1 : Nat) (l1 : List Thief) (A2 : Option Addr) (n2 c2 : Nat) (l2 : List Taken), cs = [.int .i64 f0, .int .i64 f1, .int .i64 f2, .slice A0 n0 c0, .int .i64 f4, .int .i64 f5, .int .i64 f6, .slice A1 n1 c1, .slice A2 n2 c2] ∧ (n0 ≤ c0 ∧ c0 ≤ maxLen ∧ Sl w (fun _ => True) 1 A0 n0 (ints l0)) ∧ (n1 ≤ c1 ∧ c1 ≤ maxLen ∧ Sl w (fun _ => True) 4 A1 n1 (l1.flatMap Thief.cells)) ∧ (n2 ≤ c2 ∧ c2 ≤ maxLen ∧ Sl w (fun _ => True) 2 A2 n2 (l2.flatMap Taken.cells)) := by
  obtain ⟨xs, n, _, _, hlen, hxl, hf⟩ := DataW.trod_struct Try.underlying35 h
  rw [show Try.prog.cellsOf 35 = 9 from by kernel_rfl] at hlen
  have hxl' : xs.length = 7 := hxl
  have h0 : DataW.trod enc Try.prog w base spare held n 3 ((cs.drop 0).take (Try.prog.cellsOf 3)) = xs[0]? := hf 0 _ rfl
  rw [show Try.prog.cellsOf 3 = 1 from by kernel_rfl, List.getElem?_eq_getElem (show 0 < xs.length by omega)] at h0
  obtain ⟨f0, e0, -, -⟩ := DataW.trod_int Try.underlying3 h0
  have h1 : DataW.trod enc Try.prog w base spare held n 3 ((cs.drop 1).take (Try.prog.cellsOf 3)) = xs[1]? := hf 1 _ rfl
  rw [show Try.prog.cellsOf 3 = 1 from by kernel_rfl, List.getElem?_eq_getElem (show 1 < xs.length by omega)] at h1
  obtain ⟨f1, e1, -, -⟩ := DataW.trod_int Try.underlying3 h1
  have h2 : DataW.trod enc Try.prog w base spare held n 3 ((cs.drop 2).take (Try.prog.cellsOf 3)) = xs[2]? := hf 2 _ rfl
  rw [show Try.prog.cellsOf 3 = 1 from by kernel_rfl, List.getElem?_eq_getElem (show 2 < xs.length by omega)] at h2
  obtain ⟨f2, e2, -, -⟩ := DataW.trod_int Try.underlying3 h2
  have h3 : DataW.trod enc Try.prog w base spare held n 29 ((cs.drop 3).take (Try.prog.cellsOf 29)) = xs[3]? := hf 3 _ rfl
  rw [show Try.prog.cellsOf 29 = 1 from by kernel_rfl, List.getElem?_eq_getElem (show 3 < xs.length by omega)] at h3
  obtain ⟨l0, A0, n0, c0, e3, g0, g0', -, -, s0⟩ := opens_ints Try.underlying29 Try.underlying3 (by kernel_rfl) H enc w base spare held n _ _ h3
  have h4 : DataW.trod enc Try.prog w base spare held n 31 ((cs.drop 4).take (Try.prog.cellsOf 31)) = xs[4]? := hf 4 _ rfl
  rw [show Try.prog.cellsOf 31 = 3 from by kernel_rfl, List.getElem?_eq_getElem (show 4 < xs.length by omega)] at h4
  obtain ⟨⟨f4, f5, f6⟩, e4, -⟩ := opens_Owner H enc w base spare held n _ _ h4
  simp only [Owner.cells] at e4
  have h5 : DataW.trod enc Try.prog w base spare held n 32 ((cs.drop 7).take (Try.prog.cellsOf 32)) = xs[5]? := hf 5 _ rfl
  rw [show Try.prog.cellsOf 32 = 1 from by kernel_rfl, List.getElem?_eq_getElem (show 5 < xs.length by omega)] at h5
  obtain ⟨l1, A1, n1, c1, e5, g1, g1', -, -, s1⟩ := opens_flat Try.underlying32 (by kernel_rfl) (by omega) Thief.cells_length opens_Thief H enc w base spare held n _ _ h5
  have h6 : DataW.trod enc Try.prog w base spare held n 33 ((cs.drop 8).take (Try.prog.cellsOf 33)) = xs[6]? := hf 6 _ rfl
  rw [show Try.prog.cellsOf 33 = 1 from by kernel_rfl, List.getElem?_eq_getElem (show 6 < xs.length by omega)] at h6
  obtain ⟨l2, A2, n2, c2, e6, g2, g2', -, -, s2⟩ := opens_flat Try.underlying33 (by kernel_rfl) (by omega) Taken.cells_length opens_Taken H enc w base spare held n _ _ h6
  clear h0 h1 h2 h3 h4 h5 h6 hf h hxl hxl'
  match cs, hlen with
  | [q0, q1, q2, q3, q4, q5, q6, q7, q8], _ =>
    simp only [List.drop_succ_cons, List.drop_zero, List.take_succ_cons, List.take_zero, List.cons.injEq, and_true] at e0 e1 e2 e3 e4 e5 e6
    subst e0
    subst e1
    subst e2
    subst e3
    obtain ⟨e4_0, e4_1, e4_2⟩ := e4
    subst e4_0 e4_1 e4_2
    subst e5
    subst e6
    exact ⟨_, _, _, _, _, _, _, _, _, l0, _, _, _, l1, _, _, _, l2, rfl, ⟨g0, g0', s0⟩, ⟨g1, g1', s1⟩, ⟨g2, g2', s2⟩⟩
set_option maxHeartbeats 4000000 in
theorem szDeque_yes (f0 : Int) (f1 : Int) (f2 : Int) (f4 : Int) (f5 : Int) (f6 : Int) (A0 : Option Addr) (n0 c0 : Nat) (A1 : Option Addr) (n1 c1 : Nat) (A2 : Option Addr) (n2 c2 : Nat) (q : Int) (w : World) (hm0 : n0 ≤ 9223372036854775807) (hm1 : n1 ≤ 9223372036854775807) (hm2 : n2 ≤ 9223372036854775807) (hq0 : 0 ≤ q) (hq2 : q ≤ 1048576) (hq : (n0 : Int) + (n1 : Int) + (n2 : Int) ≤ q) :
    Calls Try.prog 13 #[.agg #[.int .i64 f0, .int .i64 f1, .int .i64 f2, .slice A0 n0 c0, .int .i64 f4, .int .i64 f5, .int .i64 f6, .slice A1 n1 c1, .slice A2 n2 c2], .int .i64 q] w fun e w' => e = .returned (.int .i64 (q - (n0 : Int) - (n1 : Int) - (n2 : Int))) ∧ Ext w w' := by
  go_enter Try.func13, Try.ntmps13
  go_wp2_with fail
  refine (szIntS_any _ _ _ (q) _ (by omega) (by omega) hm0).mono ?_
  rintro e w' ⟨rfl, rfl⟩
  rw [if_pos (by omega)]
  go_wp2_with fail
  refine (szThiefS_any _ _ _ (q - (n0 : Int)) _ (by omega) (by omega) hm1).mono ?_
  rintro e w' ⟨rfl, rfl⟩
  rw [if_pos (by omega)]
  go_wp2_with fail
  refine (szTakenS_any _ _ _ (q - (n0 : Int) - (n1 : Int)) _ (by omega) (by omega) hm2).mono ?_
  rintro e w' ⟨rfl, rfl⟩
  rw [if_pos (by omega)]
  go_wp2
  go_ret
  exact ⟨by first | rfl | simp, (Ext.refl' w).al _⟩

set_option maxHeartbeats 4000000 in
theorem szDeque_no (f0 : Int) (f1 : Int) (f2 : Int) (f4 : Int) (f5 : Int) (f6 : Int) (A0 : Option Addr) (n0 c0 : Nat) (A1 : Option Addr) (n1 c1 : Nat) (A2 : Option Addr) (n2 c2 : Nat) (q : Int) (w : World) (hm0 : n0 ≤ 9223372036854775807) (hm1 : n1 ≤ 9223372036854775807) (hm2 : n2 ≤ 9223372036854775807) (hq0 : 0 ≤ q) (hq2 : q ≤ 1048576) (hq : q < (n0 : Int) + (n1 : Int) + (n2 : Int)) :
    Calls Try.prog 13 #[.agg #[.int .i64 f0, .int .i64 f1, .int .i64 f2, .slice A0 n0 c0, .int .i64 f4, .int .i64 f5, .int .i64 f6, .slice A1 n1 c1, .slice A2 n2 c2], .int .i64 q] w fun e w' => e = .returned (.int .i64 (-1)) ∧ Ext w w' := by
  by_cases g0 : (n0 : Int) ≤ q
  rotate_left
  · go_enter Try.func13, Try.ntmps13
    go_wp2_with fail
    refine (szIntS_any _ _ _ (q) _ (by omega) (by omega) hm0).mono ?_
    rintro e w' ⟨rfl, rfl⟩
    rw [if_neg (by omega)]
    go_wp2
    go_ret
    exact ⟨by first | rfl | simp, (Ext.refl' w).al _⟩
  by_cases g1 : (n1 : Int) ≤ q - (n0 : Int)
  rotate_left
  · go_enter Try.func13, Try.ntmps13
    go_wp2_with fail
    refine (szIntS_any _ _ _ (q) _ (by omega) (by omega) hm0).mono ?_
    rintro e w' ⟨rfl, rfl⟩
    rw [if_pos (by omega)]
    go_wp2_with fail
    refine (szThiefS_any _ _ _ (q - (n0 : Int)) _ (by omega) (by omega) hm1).mono ?_
    rintro e w' ⟨rfl, rfl⟩
    rw [if_neg (by omega)]
    go_wp2
    go_ret
    exact ⟨by first | rfl | simp, (Ext.refl' w).al _⟩
  go_enter Try.func13, Try.ntmps13
  go_wp2_with fail
  refine (szIntS_any _ _ _ (q) _ (by omega) (by omega) hm0).mono ?_
  rintro e w' ⟨rfl, rfl⟩
  rw [if_pos (by omega)]
  go_wp2_with fail
  refine (szThiefS_any _ _ _ (q - (n0 : Int)) _ (by omega) (by omega) hm1).mono ?_
  rintro e w' ⟨rfl, rfl⟩
  rw [if_pos (by omega)]
  go_wp2_with fail
  refine (szTakenS_any _ _ _ (q - (n0 : Int) - (n1 : Int)) _ (by omega) (by omega) hm2).mono ?_
  rintro e w' ⟨rfl, rfl⟩
  rw [if_neg (by omega)]
  go_wp2
  go_ret
  exact ⟨by first | rfl | simp, (Ext.refl' w).al _⟩
set_option maxHeartbeats 4000000 in
theorem toDeque_any (f0 : Int) (f1 : Int) (f2 : Int) (f4 : Int) (f5 : Int) (f6 : Int) (A0 : Option Addr) (n0 c0 : Nat) (l0 : List Int) (A1 : Option Addr) (n1 c1 : Nat) (l1 : List Thief) (A2 : Option Addr) (n2 c2 : Nat) (l2 : List Taken) (w : World) (S0 : Nat → Prop) (hs0 : Sl w S0 1 A0 n0 (ints l0)) (hm0 : n0 ≤ 1048576) (S1 : Nat → Prop) (hs1 : Sl w S1 4 A1 n1 (l1.flatMap Thief.cells)) (hm1 : n1 ≤ 1048576) (S2 : Nat → Prop) (hs2 : Sl w S2 2 A2 n2 (l2.flatMap Taken.cells)) (hm2 : n2 ≤ 1048576) :
    Calls Try.prog 15 #[.agg #[.int .i64 f0, .int .i64 f1, .int .i64 f2, .slice A0 n0 c0, .int .i64 f4, .int .i64 f5, .int .i64 f6, .slice A1 n1 c1, .slice A2 n2 c2]] w fun e w' => ∃ B0 d0 B1 d1 B2 d2, e = .returned (.agg #[.int .i64 f0, .int .i64 f1, .int .i64 f2, .slice B0 n0 d0, .int .i64 f4, .int .i64 f5, .int .i64 f6, .slice B1 n1 d1, .slice B2 n2 d2]) ∧ w'.ownsRow w.heap.size 3 1 (.slice B0 n0 d0) n0 (ints l0) ∧ w'.ownsRow w.heap.size 67 4 (.slice B1 n1 d1) n1 (l1.flatMap Thief.cells) ∧ w'.ownsRow w.heap.size 57 2 (.slice B2 n2 d2) n2 (l2.flatMap Taken.cells) ∧ Hid (Apart (.slice B0 n0 d0) (.slice B1 n1 d1) ∧ Apart (.slice B0 n0 d0) (.slice B2 n2 d2) ∧ Apart (.slice B1 n1 d1) (.slice B2 n2 d2)) ∧ Ext w w' := by
  go_enter Try.func15, Try.ntmps15
  go_wp2_with fail
  refine (toIntS_any _ _ _ _ _ S0 (hs0.ext ((((Ext.refl' w).al _).al _).al _)) hm0).mono ?_
  rintro e w1 ⟨B0, d0, rfl, o0, x1⟩
  have z1 : w.heap.size + 3 ≤ w1.heap.size := by have h := x1.size; (try simp at h); omega
  have ba1 : Hid (Bx w1 (w.heap.size) 35 #[.int .i64 f0, .int .i64 f1, .int .i64 f2, .slice A0 n0 c0, .int .i64 f4, .int .i64 f5, .int .i64 f6, .slice A1 n1 c1, .slice A2 n2 c2]) := Bx.ext (((Bx.new' _ _ _ rfl).al _).al _) x1
  have br1 : Hid (Bx w1 (w.heap.size + 1) 42 #[.int .i64 0, .int .i64 0, .int .i64 0, .slice none 0 0, .int .i64 0, .int .i64 0, .int .i64 0, .slice none 0 0, .slice none 0 0]) := Bx.ext ((Bx.new' _ _ _ (by simp)).al _) x1
  have bo1 : Hid (Bx w1 (w.heap.size + 2) 42 #[.int .i64 f0, .int .i64 f1, .int .i64 f2, .slice none 0 0, .int .i64 0, .int .i64 0, .int .i64 0, .slice none 0 0, .slice none 0 0]) := Bx.ext (Bx.new' _ _ _ (by simp)) x1
  have X1 : Ext w w1 := Ext.tr ((((Ext.refl' w).al _).al _).al _) x1
  have O0 : Hid (∀ g, (Value.slice B0 n0 d0).ownBlock = some g → w.heap.size + 3 ≤ g ∧ g < w1.heap.size) := fun g hg => by have h1 := o0.lt g hg; simp at h1; omega
  replace o0 := own_base o0 (b' := w.heap.size) (by simp; try omega)
  clear x1
  have ca1_4 : w1.cell? ⟨w.heap.size, 4, none⟩ = some (.int .i64 f4) := ba1.out.cell 4
  have ca1_5 : w1.cell? ⟨w.heap.size, 5, none⟩ = some (.int .i64 f5) := ba1.out.cell 5
  have ca1_6 : w1.cell? ⟨w.heap.size, 6, none⟩ = some (.int .i64 f6) := ba1.out.cell 6
  have co1_3 : w1.cell? ⟨w.heap.size + 2, 3, none⟩ = some (.slice none 0 0) := bo1.out.cell 3
  have fo1_3 : w1.frozen? ⟨w.heap.size + 2, 3, none⟩ = false := bo1.out.frozen 3
  have Ho01 := Lib.hid o0
  clear o0
  go_wp2_with fail
  refine (toOwner_any _ _ _ _).mono ?_
  rintro e w2 ⟨rfl, x2⟩
  have o0 := Ho01.out
  have z2 : w.heap.size + 3 ≤ w2.heap.size := by have h := x2.size; (try simp at h); omega
  have y2 : w1.heap.size ≤ w2.heap.size := by have h := x2.size; (try simp at h); exact h
  have ba2 : Hid (Bx w2 (w.heap.size) 35 #[.int .i64 f0, .int .i64 f1, .int .i64 f2, .slice A0 n0 c0, .int .i64 f4, .int .i64 f5, .int .i64 f6, .slice A1 n1 c1, .slice A2 n2 c2]) := Bx.ext ((ba1.out).far (by first | (simp; done) | (simp; omega)) _) x2
  have br2 : Hid (Bx w2 (w.heap.size + 1) 42 #[.int .i64 0, .int .i64 0, .int .i64 0, .slice none 0 0, .int .i64 0, .int .i64 0, .int .i64 0, .slice none 0 0, .slice none 0 0]) := Bx.ext ((br1.out).far (by first | (simp; done) | (simp; omega)) _) x2
  have bo2 : Hid (Bx w2 (w.heap.size + 2) 42 #[.int .i64 f0, .int .i64 f1, .int .i64 f2, .slice (B0) n0 d0, .int .i64 0, .int .i64 0, .int .i64 0, .slice none 0 0, .slice none 0 0]) := Bx.ext (((bo1.out).set_ _ _).cast rfl) x2
  have X2 : Ext w w2 := Ext.tr ((X1).sc (by first | (simp; done) | (simp; omega)) _) x2
  replace o0 := own_chg o0 (Chg.trans ((Chg.refl (fun g => g = w.heap.size + 2) _).sc rfl _) (x2.chg _)) (fun g hg q => by have h1 := (O0.out g hg).1; have hq3 : g = w.heap.size + 2 := q; omega)
  clear x2
  have ca2_7 : w2.cell? ⟨w.heap.size, 7, none⟩ = some (.slice A1 n1 c1) := ba2.out.cell 7
  have co2_4 : w2.cell? ⟨w.heap.size + 2, 4, none⟩ = some (.int .i64 0) := bo2.out.cell 4
  have co2_5 : w2.cell? ⟨w.heap.size + 2, 5, none⟩ = some (.int .i64 0) := bo2.out.cell 5
  have co2_6 : w2.cell? ⟨w.heap.size + 2, 6, none⟩ = some (.int .i64 0) := bo2.out.cell 6
  have fo2_4 : w2.frozen? ⟨w.heap.size + 2, 4, none⟩ = false := bo2.out.frozen 4
  have fo2_5 : w2.frozen? ⟨w.heap.size + 2, 5, none⟩ = false := bo2.out.frozen 5
  have fo2_6 : w2.frozen? ⟨w.heap.size + 2, 6, none⟩ = false := bo2.out.frozen 6
  have Ho02 := Lib.hid o0
  clear o0
  go_wp2_with fail
  refine (toThiefS_any _ _ _ _ _ S1 (hs1.ext ((((X2).sc (by first | (simp; done) | (simp; omega)) _).sc (by first | (simp; done) | (simp; omega)) _).sc (by first | (simp; done) | (simp; omega)) _)) hm1).mono ?_
  rintro e w3 ⟨B1, d1, rfl, o1, x3⟩
  have o0 := Ho02.out
  have z3 : w.heap.size + 3 ≤ w3.heap.size := by have h := x3.size; (try simp at h); omega
  have y3 : w2.heap.size ≤ w3.heap.size := by have h := x3.size; (try simp at h); exact h
  have ba3 : Hid (Bx w3 (w.heap.size) 35 #[.int .i64 f0, .int .i64 f1, .int .i64 f2, .slice A0 n0 c0, .int .i64 f4, .int .i64 f5, .int .i64 f6, .slice A1 n1 c1, .slice A2 n2 c2]) := Bx.ext ((((ba2.out).far (by first | (simp; done) | (simp; omega)) _).far (by first | (simp; done) | (simp; omega)) _).far (by first | (simp; done) | (simp; omega)) _) x3
  have br3 : Hid (Bx w3 (w.heap.size + 1) 42 #[.int .i64 0, .int .i64 0, .int .i64 0, .slice none 0 0, .int .i64 0, .int .i64 0, .int .i64 0, .slice none 0 0, .slice none 0 0]) := Bx.ext ((((br2.out).far (by first | (simp; done) | (simp; omega)) _).far (by first | (simp; done) | (simp; omega)) _).far (by first | (simp; done) | (simp; omega)) _) x3
  have bo3 : Hid (Bx w3 (w.heap.size + 2) 42 #[.int .i64 f0, .int .i64 f1, .int .i64 f2, .slice (B0) n0 d0, .int .i64 f4, .int .i64 f5, .int .i64 f6, .slice none 0 0, .slice none 0 0]) := Bx.ext (((((bo2.out).set_ _ _).set_ _ _).set_ _ _).cast rfl) x3
  have X3 : Ext w w3 := Ext.tr ((((X2).sc (by first | (simp; done) | (simp; omega)) _).sc (by first | (simp; done) | (simp; omega)) _).sc (by first | (simp; done) | (simp; omega)) _) x3
  replace o0 := own_chg o0 (Chg.trans ((((Chg.refl (fun g => g = w.heap.size + 2) _).sc rfl _).sc rfl _).sc rfl _) (x3.chg _)) (fun g hg q => by have h1 := (O0.out g hg).1; have hq3 : g = w.heap.size + 2 := q; omega)
  have O1 : Hid (∀ g, (Value.slice B1 n1 d1).ownBlock = some g → w.heap.size + 3 ≤ g ∧ g < w3.heap.size) := fun g hg => by have h1 := o1.lt g hg; have h2 := z2; simp at h1; omega
  have A01 := Lib.hid (show Apart (.slice B0 n0 d0) (.slice B1 n1 d1) from fun g h1 h2 => by have q1 := (O0.out g h1).2; have q2 := (o1.lt g h2).1; simp at q2; omega)
  replace o1 := own_base o1 (b' := w.heap.size) (by have h2 := z2; simp; try omega)
  clear x3
  have ca3_8 : w3.cell? ⟨w.heap.size, 8, none⟩ = some (.slice A2 n2 c2) := ba3.out.cell 8
  have co3_7 : w3.cell? ⟨w.heap.size + 2, 7, none⟩ = some (.slice none 0 0) := bo3.out.cell 7
  have fo3_7 : w3.frozen? ⟨w.heap.size + 2, 7, none⟩ = false := bo3.out.frozen 7
  have Ho03 := Lib.hid o0
  have Ho13 := Lib.hid o1
  clear o0 o1
  go_wp2_with fail
  refine (toTakenS_any _ _ _ _ _ S2 (hs2.ext ((X3).sc (by first | (simp; done) | (simp; omega)) _)) hm2).mono ?_
  rintro e w4 ⟨B2, d2, rfl, o2, x4⟩
  have o0 := Ho03.out
  have o1 := Ho13.out
  have z4 : w.heap.size + 3 ≤ w4.heap.size := by have h := x4.size; (try simp at h); omega
  have y4 : w3.heap.size ≤ w4.heap.size := by have h := x4.size; (try simp at h); exact h
  have ba4 : Hid (Bx w4 (w.heap.size) 35 #[.int .i64 f0, .int .i64 f1, .int .i64 f2, .slice A0 n0 c0, .int .i64 f4, .int .i64 f5, .int .i64 f6, .slice A1 n1 c1, .slice A2 n2 c2]) := Bx.ext ((ba3.out).far (by first | (simp; done) | (simp; omega)) _) x4
  have br4 : Hid (Bx w4 (w.heap.size + 1) 42 #[.int .i64 0, .int .i64 0, .int .i64 0, .slice none 0 0, .int .i64 0, .int .i64 0, .int .i64 0, .slice none 0 0, .slice none 0 0]) := Bx.ext ((br3.out).far (by first | (simp; done) | (simp; omega)) _) x4
  have bo4 : Hid (Bx w4 (w.heap.size + 2) 42 #[.int .i64 f0, .int .i64 f1, .int .i64 f2, .slice (B0) n0 d0, .int .i64 f4, .int .i64 f5, .int .i64 f6, .slice (B1) n1 d1, .slice none 0 0]) := Bx.ext (((bo3.out).set_ _ _).cast rfl) x4
  have X4 : Ext w w4 := Ext.tr ((X3).sc (by first | (simp; done) | (simp; omega)) _) x4
  replace o0 := own_chg o0 (Chg.trans ((Chg.refl (fun g => g = w.heap.size + 2) _).sc rfl _) (x4.chg _)) (fun g hg q => by have h1 := (O0.out g hg).1; have hq3 : g = w.heap.size + 2 := q; omega)
  replace o1 := own_chg o1 (Chg.trans ((Chg.refl (fun g => g = w.heap.size + 2) _).sc rfl _) (x4.chg _)) (fun g hg q => by have h1 := (O1.out g hg).1; have hq3 : g = w.heap.size + 2 := q; omega)
  have O2 : Hid (∀ g, (Value.slice B2 n2 d2).ownBlock = some g → w.heap.size + 3 ≤ g ∧ g < w4.heap.size) := fun g hg => by have h1 := o2.lt g hg; have h2 := z3; simp at h1; omega
  have A02 := Lib.hid (show Apart (.slice B0 n0 d0) (.slice B2 n2 d2) from fun g h1 h2 => by have q1 := (O0.out g h1).2; have q2 := (o2.lt g h2).1; simp at q2; omega)
  have A12 := Lib.hid (show Apart (.slice B1 n1 d1) (.slice B2 n2 d2) from fun g h1 h2 => by have q1 := (O1.out g h1).2; have q2 := (o2.lt g h2).1; simp at q2; omega)
  replace o2 := own_base o2 (b' := w.heap.size) (by have h2 := z3; simp; try omega)
  clear x4
  have co4_0 : w4.cell? ⟨w.heap.size + 2, 0, none⟩ = some (.int .i64 f0) := bo4.out.cell 0
  have co4_1 : w4.cell? ⟨w.heap.size + 2, 1, none⟩ = some (.int .i64 f1) := bo4.out.cell 1
  have co4_2 : w4.cell? ⟨w.heap.size + 2, 2, none⟩ = some (.int .i64 f2) := bo4.out.cell 2
  have co4_3 : w4.cell? ⟨w.heap.size + 2, 3, none⟩ = some (.slice (B0) n0 d0) := bo4.out.cell 3
  have co4_4 : w4.cell? ⟨w.heap.size + 2, 4, none⟩ = some (.int .i64 f4) := bo4.out.cell 4
  have co4_5 : w4.cell? ⟨w.heap.size + 2, 5, none⟩ = some (.int .i64 f5) := bo4.out.cell 5
  have co4_6 : w4.cell? ⟨w.heap.size + 2, 6, none⟩ = some (.int .i64 f6) := bo4.out.cell 6
  have co4_7 : w4.cell? ⟨w.heap.size + 2, 7, none⟩ = some (.slice (B1) n1 d1) := bo4.out.cell 7
  have co4_8 : w4.cell? ⟨w.heap.size + 2, 8, none⟩ = some (.slice none 0 0) := bo4.out.cell 8
  have fo4_8 : w4.frozen? ⟨w.heap.size + 2, 8, none⟩ = false := bo4.out.frozen 8
  have cr4_0 : w4.cell? ⟨w.heap.size + 1, 0, none⟩ = some (.int .i64 0) := br4.out.cell 0
  have fr4_0 : w4.frozen? ⟨w.heap.size + 1, 0, none⟩ = false := br4.out.frozen 0
  have cr4_1 : w4.cell? ⟨w.heap.size + 1, 1, none⟩ = some (.int .i64 0) := br4.out.cell 1
  have fr4_1 : w4.frozen? ⟨w.heap.size + 1, 1, none⟩ = false := br4.out.frozen 1
  have cr4_2 : w4.cell? ⟨w.heap.size + 1, 2, none⟩ = some (.int .i64 0) := br4.out.cell 2
  have fr4_2 : w4.frozen? ⟨w.heap.size + 1, 2, none⟩ = false := br4.out.frozen 2
  have cr4_3 : w4.cell? ⟨w.heap.size + 1, 3, none⟩ = some (.slice none 0 0) := br4.out.cell 3
  have fr4_3 : w4.frozen? ⟨w.heap.size + 1, 3, none⟩ = false := br4.out.frozen 3
  have cr4_4 : w4.cell? ⟨w.heap.size + 1, 4, none⟩ = some (.int .i64 0) := br4.out.cell 4
  have fr4_4 : w4.frozen? ⟨w.heap.size + 1, 4, none⟩ = false := br4.out.frozen 4
  have cr4_5 : w4.cell? ⟨w.heap.size + 1, 5, none⟩ = some (.int .i64 0) := br4.out.cell 5
  have fr4_5 : w4.frozen? ⟨w.heap.size + 1, 5, none⟩ = false := br4.out.frozen 5
  have cr4_6 : w4.cell? ⟨w.heap.size + 1, 6, none⟩ = some (.int .i64 0) := br4.out.cell 6
  have fr4_6 : w4.frozen? ⟨w.heap.size + 1, 6, none⟩ = false := br4.out.frozen 6
  have cr4_7 : w4.cell? ⟨w.heap.size + 1, 7, none⟩ = some (.slice none 0 0) := br4.out.cell 7
  have fr4_7 : w4.frozen? ⟨w.heap.size + 1, 7, none⟩ = false := br4.out.frozen 7
  have cr4_8 : w4.cell? ⟨w.heap.size + 1, 8, none⟩ = some (.slice none 0 0) := br4.out.cell 8
  have fr4_8 : w4.frozen? ⟨w.heap.size + 1, 8, none⟩ = false := br4.out.frozen 8
  have Ho04 := Lib.hid o0
  have Ho14 := Lib.hid o1
  have Ho24 := Lib.hid o2
  clear o0 o1 o2
  go_wp2
  refine bodyPost_ret (v := .agg #[.int .i64 f0, .int .i64 f1, .int .i64 f2, .slice (B0) n0 d0, .int .i64 f4, .int .i64 f5, .int .i64 f6, .slice (B1) n1 d1, .slice (B2) n2 d2]) (by simp [results, Try.results15, go_sem, cr4_0, cr4_1, cr4_2, cr4_3, cr4_4, cr4_5, cr4_6, cr4_7, cr4_8]) rfl ⟨_, _, _, _, _, _, rfl, ?_⟩
  refine ⟨own_chg Ho04.out (((((((((((Chg.refl (fun g => g = w.heap.size + 2 ∨ g = w.heap.size + 1) _).sc (by first | (simp; done) | (simp; omega)) _).sc (by first | (simp; done) | (simp; omega)) _).sc (by first | (simp; done) | (simp; omega)) _).sc (by first | (simp; done) | (simp; omega)) _).sc (by first | (simp; done) | (simp; omega)) _).sc (by first | (simp; done) | (simp; omega)) _).sc (by first | (simp; done) | (simp; omega)) _).sc (by first | (simp; done) | (simp; omega)) _).sc (by first | (simp; done) | (simp; omega)) _).sc (by first | (simp; done) | (simp; omega)) _) (fun g hg q => by have h1 := (O0.out g hg).1; have hq3 : g = w.heap.size + 2 ∨ g = w.heap.size + 1 := q; omega), own_chg Ho14.out (((((((((((Chg.refl (fun g => g = w.heap.size + 2 ∨ g = w.heap.size + 1) _).sc (by first | (simp; done) | (simp; omega)) _).sc (by first | (simp; done) | (simp; omega)) _).sc (by first | (simp; done) | (simp; omega)) _).sc (by first | (simp; done) | (simp; omega)) _).sc (by first | (simp; done) | (simp; omega)) _).sc (by first | (simp; done) | (simp; omega)) _).sc (by first | (simp; done) | (simp; omega)) _).sc (by first | (simp; done) | (simp; omega)) _).sc (by first | (simp; done) | (simp; omega)) _).sc (by first | (simp; done) | (simp; omega)) _) (fun g hg q => by have h1 := (O1.out g hg).1; have hq3 : g = w.heap.size + 2 ∨ g = w.heap.size + 1 := q; omega), own_chg Ho24.out (((((((((((Chg.refl (fun g => g = w.heap.size + 2 ∨ g = w.heap.size + 1) _).sc (by first | (simp; done) | (simp; omega)) _).sc (by first | (simp; done) | (simp; omega)) _).sc (by first | (simp; done) | (simp; omega)) _).sc (by first | (simp; done) | (simp; omega)) _).sc (by first | (simp; done) | (simp; omega)) _).sc (by first | (simp; done) | (simp; omega)) _).sc (by first | (simp; done) | (simp; omega)) _).sc (by first | (simp; done) | (simp; omega)) _).sc (by first | (simp; done) | (simp; omega)) _).sc (by first | (simp; done) | (simp; omega)) _) (fun g hg q => by have h1 := (O2.out g hg).1; have hq3 : g = w.heap.size + 2 ∨ g = w.heap.size + 1 := q; omega), ⟨A01.out, A02.out, A12.out⟩, ?_⟩
  exact ((((((((((X4).sc (by first | (simp; done) | (simp; omega)) _).sc (by first | (simp; done) | (simp; omega)) _).sc (by first | (simp; done) | (simp; omega)) _).sc (by first | (simp; done) | (simp; omega)) _).sc (by first | (simp; done) | (simp; omega)) _).sc (by first | (simp; done) | (simp; omega)) _).sc (by first | (simp; done) | (simp; omega)) _).sc (by first | (simp; done) | (simp; omega)) _).sc (by first | (simp; done) | (simp; omega)) _).sc (by first | (simp; done) | (simp; omega)) _
set_option maxHeartbeats 4000000 in
theorem eqDeque_same (f0 : Int) (f1 : Int) (f2 : Int) (f4 : Int) (f5 : Int) (f6 : Int) (A0 : Option Addr) (n0 c0 : Nat) (l0 : List Int) (A1 : Option Addr) (n1 c1 : Nat) (l1 : List Thief) (A2 : Option Addr) (n2 c2 : Nat) (l2 : List Taken) (B0 : Option Addr) (d0 : Nat) (B1 : Option Addr) (d1 : Nat) (B2 : Option Addr) (d2 : Nat) (w : World) (S0 : Nat → Prop) (hs0 : Sl w S0 1 A0 n0 (ints l0)) (hm0 : n0 ≤ 1048576) (S1 : Nat → Prop) (hs1 : Sl w S1 4 A1 n1 (l1.flatMap Thief.cells)) (hm1 : n1 ≤ 1048576) (S2 : Nat → Prop) (hs2 : Sl w S2 2 A2 n2 (l2.flatMap Taken.cells)) (hm2 : n2 ≤ 1048576) (T0 : Nat → Prop) (ht0 : Sl w T0 1 B0 n0 (ints l0)) (T1 : Nat → Prop) (ht1 : Sl w T1 4 B1 n1 (l1.flatMap Thief.cells)) (T2 : Nat → Prop) (ht2 : Sl w T2 2 B2 n2 (l2.flatMap Taken.cells)) :
    Calls Try.prog 17 #[.agg #[.int .i64 f0, .int .i64 f1, .int .i64 f2, .slice A0 n0 c0, .int .i64 f4, .int .i64 f5, .int .i64 f6, .slice A1 n1 c1, .slice A2 n2 c2], .agg #[.int .i64 f0, .int .i64 f1, .int .i64 f2, .slice B0 n0 d0, .int .i64 f4, .int .i64 f5, .int .i64 f6, .slice B1 n1 d1, .slice B2 n2 d2]] w fun e w' => e = .returned (.bool true) ∧ Ext w w' := by
  go_enter Try.func17, Try.ntmps17
  go_wp2_with fail
  refine (eqIntS_same _ _ _ _ _ _ _ S0 T0 (hs0.ext (((Ext.refl' w).al _).al _)) (ht0.ext (((Ext.refl' w).al _).al _)) (by omega)).mono ?_
  rintro e w1 ⟨rfl, x1⟩
  have z1 : w.heap.size + 2 ≤ w1.heap.size := by have h := x1.size; (try simp at h); omega
  have ba1 : Hid (Bx w1 (w.heap.size) 42 #[.int .i64 f0, .int .i64 f1, .int .i64 f2, .slice A0 n0 c0, .int .i64 f4, .int .i64 f5, .int .i64 f6, .slice A1 n1 c1, .slice A2 n2 c2]) := Bx.ext ((Bx.new' _ _ _ rfl).al _) x1
  have bb1 : Hid (Bx w1 (w.heap.size + 1) 42 #[.int .i64 f0, .int .i64 f1, .int .i64 f2, .slice B0 n0 d0, .int .i64 f4, .int .i64 f5, .int .i64 f6, .slice B1 n1 d1, .slice B2 n2 d2]) := Bx.ext (Bx.new' _ _ _ (by simp)) x1
  have X1 : Ext w w1 := Ext.tr (((Ext.refl' w).al _).al _) x1
  clear x1
  have ca1_4 : w1.cell? ⟨w.heap.size, 4, none⟩ = some (.int .i64 f4) := ba1.out.cell 4
  have cb1_4 : w1.cell? ⟨w.heap.size + 1, 4, none⟩ = some (.int .i64 f4) := bb1.out.cell 4
  have ca1_5 : w1.cell? ⟨w.heap.size, 5, none⟩ = some (.int .i64 f5) := ba1.out.cell 5
  have cb1_5 : w1.cell? ⟨w.heap.size + 1, 5, none⟩ = some (.int .i64 f5) := bb1.out.cell 5
  have ca1_6 : w1.cell? ⟨w.heap.size, 6, none⟩ = some (.int .i64 f6) := ba1.out.cell 6
  have cb1_6 : w1.cell? ⟨w.heap.size + 1, 6, none⟩ = some (.int .i64 f6) := bb1.out.cell 6
  go_wp2_with fail
  refine (eqOwner_same _ _ _ _).mono ?_
  rintro e w2 ⟨rfl, x2⟩
  have z2 : w.heap.size + 2 ≤ w2.heap.size := by have h := x2.size; (try simp at h); omega
  have ba2 : Hid (Bx w2 (w.heap.size) 42 #[.int .i64 f0, .int .i64 f1, .int .i64 f2, .slice A0 n0 c0, .int .i64 f4, .int .i64 f5, .int .i64 f6, .slice A1 n1 c1, .slice A2 n2 c2]) := Bx.ext (ba1.out) x2
  have bb2 : Hid (Bx w2 (w.heap.size + 1) 42 #[.int .i64 f0, .int .i64 f1, .int .i64 f2, .slice B0 n0 d0, .int .i64 f4, .int .i64 f5, .int .i64 f6, .slice B1 n1 d1, .slice B2 n2 d2]) := Bx.ext (bb1.out) x2
  have X2 : Ext w w2 := Ext.tr (X1) x2
  clear x2
  have ca2_7 : w2.cell? ⟨w.heap.size, 7, none⟩ = some (.slice A1 n1 c1) := ba2.out.cell 7
  have cb2_7 : w2.cell? ⟨w.heap.size + 1, 7, none⟩ = some (.slice B1 n1 d1) := bb2.out.cell 7
  go_wp2_with fail
  refine (eqThiefS_same _ _ _ _ _ _ _ S1 T1 (hs1.ext (X2)) (ht1.ext (X2)) (by omega)).mono ?_
  rintro e w3 ⟨rfl, x3⟩
  have z3 : w.heap.size + 2 ≤ w3.heap.size := by have h := x3.size; (try simp at h); omega
  have ba3 : Hid (Bx w3 (w.heap.size) 42 #[.int .i64 f0, .int .i64 f1, .int .i64 f2, .slice A0 n0 c0, .int .i64 f4, .int .i64 f5, .int .i64 f6, .slice A1 n1 c1, .slice A2 n2 c2]) := Bx.ext (ba2.out) x3
  have bb3 : Hid (Bx w3 (w.heap.size + 1) 42 #[.int .i64 f0, .int .i64 f1, .int .i64 f2, .slice B0 n0 d0, .int .i64 f4, .int .i64 f5, .int .i64 f6, .slice B1 n1 d1, .slice B2 n2 d2]) := Bx.ext (bb2.out) x3
  have X3 : Ext w w3 := Ext.tr (X2) x3
  clear x3
  have ca3_8 : w3.cell? ⟨w.heap.size, 8, none⟩ = some (.slice A2 n2 c2) := ba3.out.cell 8
  have cb3_8 : w3.cell? ⟨w.heap.size + 1, 8, none⟩ = some (.slice B2 n2 d2) := bb3.out.cell 8
  go_wp2_with fail
  refine (eqTakenS_same _ _ _ _ _ _ _ S2 T2 (hs2.ext (X3)) (ht2.ext (X3)) (by omega)).mono ?_
  rintro e w4 ⟨rfl, x4⟩
  have z4 : w.heap.size + 2 ≤ w4.heap.size := by have h := x4.size; (try simp at h); omega
  have ba4 : Hid (Bx w4 (w.heap.size) 42 #[.int .i64 f0, .int .i64 f1, .int .i64 f2, .slice A0 n0 c0, .int .i64 f4, .int .i64 f5, .int .i64 f6, .slice A1 n1 c1, .slice A2 n2 c2]) := Bx.ext (ba3.out) x4
  have bb4 : Hid (Bx w4 (w.heap.size + 1) 42 #[.int .i64 f0, .int .i64 f1, .int .i64 f2, .slice B0 n0 d0, .int .i64 f4, .int .i64 f5, .int .i64 f6, .slice B1 n1 d1, .slice B2 n2 d2]) := Bx.ext (bb3.out) x4
  have X4 : Ext w w4 := Ext.tr (X3) x4
  clear x4
  go_wp2
  go_ret
  exact ⟨rfl, X4⟩
set_option maxHeartbeats 4000000 in
theorem markDeque_any (f0 : Int) (f1 : Int) (f2 : Int) (f4 : Int) (f5 : Int) (f6 : Int) (A0 : Option Addr) (n0 c0 : Nat) (l0 : List Int) (A1 : Option Addr) (n1 c1 : Nat) (l1 : List Thief) (A2 : Option Addr) (n2 c2 : Nat) (l2 : List Taken) (base : Nat) (q : Int) (w : World) (o0 : w.ownsRow base 3 1 (.slice A0 n0 c0) n0 (ints l0)) (o1 : w.ownsRow base 67 4 (.slice A1 n1 c1) n1 (l1.flatMap Thief.cells)) (o2 : w.ownsRow base 57 2 (.slice A2 n2 c2) n2 (l2.flatMap Taken.cells)) (ap : Hid (Apart (.slice A0 n0 c0) (.slice A1 n1 c1) ∧ Apart (.slice A0 n0 c0) (.slice A2 n2 c2) ∧ Apart (.slice A1 n1 c1) (.slice A2 n2 c2))) (hq : 0 ≤ q) (hqn : q + (n0 : Int) + (n1 : Int) * 4 + (n2 : Int) * 2 ≤ 9007199254740992) :
    Calls Try.prog 21 #[.agg #[.int .i64 f0, .int .i64 f1, .int .i64 f2, .slice A0 n0 c0, .int .i64 f4, .int .i64 f5, .int .i64 f6, .slice A1 n1 c1, .slice A2 n2 c2], .int .i64 q] w fun e w' => e = .returned (.int .i64 (q + (n0 : Int) + (n1 : Int) * 4 + (n2 : Int) * 2)) ∧ w'.ownsRow base 3 1 (.slice A0 n0 c0) n0 (ints (marks (q) n0)) ∧ w'.ownsRow base 67 4 (.slice A1 n1 c1) n1 ((Thief.marks (q + (n0 : Int)) n1).flatMap Thief.cells) ∧ w'.ownsRow base 57 2 (.slice A2 n2 c2) n2 ((Taken.marks (q + (n0 : Int) + (n1 : Int) * 4) n2).flatMap Taken.cells) ∧ Chg (fun k => (Value.slice A0 n0 c0).ownBlock = some k ∨ (Value.slice A1 n1 c1).ownBlock = some k ∨ (Value.slice A2 n2 c2).ownBlock = some k) w w' := by
  obtain ⟨a01, a02, a12⟩ := ap.out
  have A01 := Lib.hid a01
  have A02 := Lib.hid a02
  have A12 := Lib.hid a12
  clear a01 a02 a12
  have B0 := Lib.hid o0.lt
  have H0 := Lib.hid o0
  have B1 := Lib.hid o1.lt
  have H1 := Lib.hid o1
  have B2 := Lib.hid o2.lt
  have H2 := Lib.hid o2
  clear o0 o1 o2
  go_enter Try.func21, Try.ntmps21
  go_wp2_with fail
  refine (markIntS_any _ _ _ base _ (q) _ (H0.out.alloc _) (by omega) (by omega)).mono ?_
  rintro e w1 ⟨rfl, m0, cc0⟩
  have M0 := Lib.hid m0
  have C0 := Lib.hid cc0
  replace H1 := Lib.hid (own_chg (H1.out.alloc _) C0.out (fun g h1 h2 => A01.out g h2 h1))
  replace H2 := Lib.hid (own_chg (H2.out.alloc _) C0.out (fun g h1 h2 => A02.out g h2 h1))
  have b1 : Hid (Bx w1 w.heap.size 42 #[.int .i64 f0, .int .i64 f1, .int .i64 f2, .slice A0 n0 c0, .int .i64 f4, .int .i64 f5, .int .i64 f6, .slice A1 n1 c1, .slice A2 n2 c2]) := Bx.chg (Bx.new' _ _ _ rfl) cc0 (fun q => by have h := (B0.out _ q).2; omega)
  clear m0 cc0
  have ca1 : w1.cell? ⟨w.heap.size, 7, none⟩ = some (.slice A1 n1 c1) := b1.out.cell 7
  go_wp2_with fail
  refine (markThiefS_any _ _ _ base _ (q + (n0 : Int)) _ H1.out (by omega) (by omega)).mono ?_
  rintro e w2 ⟨rfl, m1, cc1⟩
  have M1 := Lib.hid m1
  have C1 := Lib.hid cc1
  replace H2 := Lib.hid (own_chg H2.out C1.out (fun g h1 h2 => A12.out g h2 h1))
  replace M0 := Lib.hid (own_chg M0.out C1.out (fun g h1 h2 => A01.out g h1 h2))
  have b2 : Hid (Bx w2 w.heap.size 42 #[.int .i64 f0, .int .i64 f1, .int .i64 f2, .slice A0 n0 c0, .int .i64 f4, .int .i64 f5, .int .i64 f6, .slice A1 n1 c1, .slice A2 n2 c2]) := Bx.chg b1.out cc1 (fun q => by have h := (B1.out _ q).2; omega)
  clear m1 cc1
  have ca2 : w2.cell? ⟨w.heap.size, 8, none⟩ = some (.slice A2 n2 c2) := b2.out.cell 8
  go_wp2_with fail
  refine (markTakenS_any _ _ _ base _ (q + (n0 : Int) + (n1 : Int) * 4) _ H2.out (by omega) (by omega)).mono ?_
  rintro e w3 ⟨rfl, m2, cc2⟩
  have M2 := Lib.hid m2
  have C2 := Lib.hid cc2
  replace M0 := Lib.hid (own_chg M0.out C2.out (fun g h1 h2 => A02.out g h1 h2))
  replace M1 := Lib.hid (own_chg M1.out C2.out (fun g h1 h2 => A12.out g h1 h2))
  have b3 : Hid (Bx w3 w.heap.size 42 #[.int .i64 f0, .int .i64 f1, .int .i64 f2, .slice A0 n0 c0, .int .i64 f4, .int .i64 f5, .int .i64 f6, .slice A1 n1 c1, .slice A2 n2 c2]) := Bx.chg b2.out cc2 (fun q => by have h := (B2.out _ q).2; omega)
  clear m2 cc2
  go_wp2
  go_ret
  exact ⟨rfl, M0.out, M1.out, M2.out, Chg.trans (Chg.trans (Chg.trans ((Chg.refl _ w).al _) (C0.out.mono fun k h => .inl h)) (C1.out.mono fun k h => .inr (.inl h))) (C2.out.mono fun k h => .inr (.inr (h)))⟩
set_option maxHeartbeats 4000000 in
theorem heldDeque_any (f0 : Int) (f1 : Int) (f2 : Int) (f4 : Int) (f5 : Int) (f6 : Int) (A0 : Option Addr) (n0 c0 : Nat) (A1 : Option Addr) (n1 c1 : Nat) (A2 : Option Addr) (n2 c2 : Nat) (q : Int) (w : World) (S0 : Nat → Prop) (hs0 : Sl w S0 1 A0 n0 (ints (marks (q) n0))) (S1 : Nat → Prop) (hs1 : Sl w S1 4 A1 n1 ((Thief.marks (q + (n0 : Int)) n1).flatMap Thief.cells)) (S2 : Nat → Prop) (hs2 : Sl w S2 2 A2 n2 ((Taken.marks (q + (n0 : Int) + (n1 : Int) * 4) n2).flatMap Taken.cells)) (hq : 0 ≤ q) (hqn : q + (n0 : Int) + (n1 : Int) * 4 + (n2 : Int) * 2 ≤ 9007199254740992) :
    Calls Try.prog 27 #[.agg #[.int .i64 f0, .int .i64 f1, .int .i64 f2, .slice A0 n0 c0, .int .i64 f4, .int .i64 f5, .int .i64 f6, .slice A1 n1 c1, .slice A2 n2 c2], .int .i64 q] w fun e w' => e = .returned (.int .i64 (q + (n0 : Int) + (n1 : Int) * 4 + (n2 : Int) * 2)) ∧ Ext w w' := by
  go_enter Try.func27, Try.ntmps27
  have p1 : (0 : Int) ≤ q + (n0 : Int) := by omega
  go_wp2_with fail
  refine (heldIntS_any _ _ _ (q) _ S0 (hs0.ext ((Ext.refl' w).al _)) (by omega) (by omega)).mono ?_
  rintro e w1 ⟨rfl, y1⟩
  have x1 := Ext.of_eq y1
  clear y1
  have b1 : Hid (Bx w1 w.heap.size 42 #[.int .i64 f0, .int .i64 f1, .int .i64 f2, .slice A0 n0 c0, .int .i64 f4, .int .i64 f5, .int .i64 f6, .slice A1 n1 c1, .slice A2 n2 c2]) := Bx.ext (Bx.new' _ _ _ rfl) x1
  have X1 : Ext w w1 := Ext.tr ((Ext.refl' w).al _) x1
  clear x1
  have ca1 : w1.cell? ⟨w.heap.size, 7, none⟩ = some (.slice A1 n1 c1) := b1.out.cell 7
  have p2 : (0 : Int) ≤ q + (n0 : Int) + (n1 : Int) * 4 := by omega
  go_wp2_with fail
  refine (heldThiefS_any _ _ _ (q + (n0 : Int)) _ S1 (hs1.ext (X1)) (by omega) (by omega)).mono ?_
  rintro e w2 ⟨rfl, x2⟩
  have b2 : Hid (Bx w2 w.heap.size 42 #[.int .i64 f0, .int .i64 f1, .int .i64 f2, .slice A0 n0 c0, .int .i64 f4, .int .i64 f5, .int .i64 f6, .slice A1 n1 c1, .slice A2 n2 c2]) := Bx.ext (b1.out) x2
  have X2 : Ext w w2 := Ext.tr (X1) x2
  clear x2
  have ca2 : w2.cell? ⟨w.heap.size, 8, none⟩ = some (.slice A2 n2 c2) := b2.out.cell 8
  have p3 : (0 : Int) ≤ q + (n0 : Int) + (n1 : Int) * 4 + (n2 : Int) * 2 := by omega
  go_wp2_with fail
  refine (heldTakenS_any _ _ _ (q + (n0 : Int) + (n1 : Int) * 4) _ S2 (hs2.ext (X2)) (by omega) (by omega)).mono ?_
  rintro e w3 ⟨rfl, x3⟩
  have b3 : Hid (Bx w3 w.heap.size 42 #[.int .i64 f0, .int .i64 f1, .int .i64 f2, .slice A0 n0 c0, .int .i64 f4, .int .i64 f5, .int .i64 f6, .slice A1 n1 c1, .slice A2 n2 c2]) := Bx.ext (b2.out) x3
  have X3 : Ext w w3 := Ext.tr (X2) x3
  clear x3
  go_wp2
  go_ret
  exact ⟨rfl, X3⟩
end Go.Proofs.Ytkkcgpoakhllkaa
