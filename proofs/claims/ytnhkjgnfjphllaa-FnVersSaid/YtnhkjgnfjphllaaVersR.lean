/- The laws' helpers on Versions. No condition but lengths. -/
import Derived.Test.YtnhkjgnfjphllaaVersT
import Derived.Test.YtnhkjgnfjphllaaIn
import Derived.Test.YtnhkjgnfjphllaaSzInts
namespace Go.Proofs.Ytnhkjgnfjphllaa
open Go.RowKit Go.Deep

set_option maxHeartbeats 1000000 in
theorem opens_Versions (H : Type) (enc : TypeId × Value → H) (w : World) (base : Nat) (spare : Nat → Bool) (held : Bool) (fuel : Nat) (cs : List Value) (x : DataW H × List MemPlace)
    (h : DataW.trod enc Try.prog w base spare held fuel 36 cs = some x) : ∃ (f1 : Int) (A0 : Option Addr) (n0 c0 : Nat) (l0 : List Int) (A1 : Option Addr) (n1 c1 : Nat) (l1 : List Ver), cs = [.slice A0 n0 c0, .int .i64 f1, .slice A1 n1 c1] ∧ (n0 ≤ c0 ∧ c0 ≤ maxLen ∧ Sl w (fun _ => True) 1 A0 n0 (ints l0)) ∧ (n1 ≤ c1 ∧ c1 ≤ maxLen ∧ Sl w (fun _ => True) 3 A1 n1 (l1.flatMap Ver.cells)) := by
  obtain ⟨xs, n, _, _, hlen, hxl, hf⟩ := DataW.trod_struct Try.underlying36 h
  rw [show Try.prog.cellsOf 36 = 3 from by kernel_rfl] at hlen
  have hxl' : xs.length = 3 := hxl
  have h0 : DataW.trod enc Try.prog w base spare held n 22 ((cs.drop 0).take (Try.prog.cellsOf 22)) = xs[0]? := hf 0 _ rfl
  rw [show Try.prog.cellsOf 22 = 1 from by kernel_rfl, List.getElem?_eq_getElem (show 0 < xs.length by omega)] at h0
  obtain ⟨l0, A0, n0, c0, e0, g0, g0', -, -, s0⟩ := opens_ints Try.underlying22 Try.underlying3 (by kernel_rfl) H enc w base spare held n _ _ h0
  have h1 : DataW.trod enc Try.prog w base spare held n 3 ((cs.drop 1).take (Try.prog.cellsOf 3)) = xs[1]? := hf 1 _ rfl
  rw [show Try.prog.cellsOf 3 = 1 from by kernel_rfl, List.getElem?_eq_getElem (show 1 < xs.length by omega)] at h1
  obtain ⟨f1, e1, -, -⟩ := DataW.trod_int Try.underlying3 h1
  have h2 : DataW.trod enc Try.prog w base spare held n 34 ((cs.drop 2).take (Try.prog.cellsOf 34)) = xs[2]? := hf 2 _ rfl
  rw [show Try.prog.cellsOf 34 = 1 from by kernel_rfl, List.getElem?_eq_getElem (show 2 < xs.length by omega)] at h2
  obtain ⟨l1, A1, n1, c1, e2, g1, g1', -, -, s1⟩ := opens_flat Try.underlying34 (by kernel_rfl) (by omega) Ver.cells_length opens_Ver H enc w base spare held n _ _ h2
  clear h0 h1 h2 hf h hxl hxl'
  match cs, hlen with
  | [q0, q1, q2], _ =>
    simp only [List.drop_succ_cons, List.drop_zero, List.take_succ_cons, List.take_zero, List.cons.injEq, and_true] at e0 e1 e2
    subst e0
    subst e1
    subst e2
    exact ⟨_, _, _, _, l0, _, _, _, l1, rfl, ⟨g0, g0', s0⟩, ⟨g1, g1', s1⟩⟩
set_option maxHeartbeats 4000000 in
theorem szVersions_yes (f1 : Int) (A0 : Option Addr) (n0 c0 : Nat) (A1 : Option Addr) (n1 c1 : Nat) (q : Int) (w : World) (hm0 : n0 ≤ 9223372036854775807) (hm1 : n1 ≤ 9223372036854775807) (hq0 : 0 ≤ q) (hq2 : q ≤ 1048576) (hq : (n0 : Int) + (n1 : Int) ≤ q) :
    Calls Try.prog 19 #[.agg #[.slice A0 n0 c0, .int .i64 f1, .slice A1 n1 c1], .int .i64 q] w fun e w' => e = .returned (.int .i64 (q - (n0 : Int) - (n1 : Int))) ∧ Ext w w' := by
  go_enter Try.func19, Try.ntmps19
  go_wp2_with fail
  refine (szIntS_any _ _ _ (q) _ (by omega) (by omega) hm0).mono ?_
  rintro e w' ⟨rfl, rfl⟩
  rw [if_pos (by omega)]
  go_wp2_with fail
  refine (szVerS_any _ _ _ (q - (n0 : Int)) _ (by omega) (by omega) hm1).mono ?_
  rintro e w' ⟨rfl, rfl⟩
  rw [if_pos (by omega)]
  go_wp2
  go_ret
  exact ⟨by first | rfl | simp, (Ext.refl' w).al _⟩

set_option maxHeartbeats 4000000 in
theorem szVersions_no (f1 : Int) (A0 : Option Addr) (n0 c0 : Nat) (A1 : Option Addr) (n1 c1 : Nat) (q : Int) (w : World) (hm0 : n0 ≤ 9223372036854775807) (hm1 : n1 ≤ 9223372036854775807) (hq0 : 0 ≤ q) (hq2 : q ≤ 1048576) (hq : q < (n0 : Int) + (n1 : Int)) :
    Calls Try.prog 19 #[.agg #[.slice A0 n0 c0, .int .i64 f1, .slice A1 n1 c1], .int .i64 q] w fun e w' => e = .returned (.int .i64 (-1)) ∧ Ext w w' := by
  by_cases g0 : (n0 : Int) ≤ q
  rotate_left
  · go_enter Try.func19, Try.ntmps19
    go_wp2_with fail
    refine (szIntS_any _ _ _ (q) _ (by omega) (by omega) hm0).mono ?_
    rintro e w' ⟨rfl, rfl⟩
    rw [if_neg (by omega)]
    go_wp2
    go_ret
    exact ⟨by first | rfl | simp, (Ext.refl' w).al _⟩
  go_enter Try.func19, Try.ntmps19
  go_wp2_with fail
  refine (szIntS_any _ _ _ (q) _ (by omega) (by omega) hm0).mono ?_
  rintro e w' ⟨rfl, rfl⟩
  rw [if_pos (by omega)]
  go_wp2_with fail
  refine (szVerS_any _ _ _ (q - (n0 : Int)) _ (by omega) (by omega) hm1).mono ?_
  rintro e w' ⟨rfl, rfl⟩
  rw [if_neg (by omega)]
  go_wp2
  go_ret
  exact ⟨by first | rfl | simp, (Ext.refl' w).al _⟩
set_option maxHeartbeats 4000000 in
theorem toVersions_any (f1 : Int) (A0 : Option Addr) (n0 c0 : Nat) (l0 : List Int) (A1 : Option Addr) (n1 c1 : Nat) (l1 : List Ver) (w : World) (S0 : Nat → Prop) (hs0 : Sl w S0 1 A0 n0 (ints l0)) (hm0 : n0 ≤ 1048576) (S1 : Nat → Prop) (hs1 : Sl w S1 3 A1 n1 (l1.flatMap Ver.cells)) (hm1 : n1 ≤ 1048576) :
    Calls Try.prog 21 #[.agg #[.slice A0 n0 c0, .int .i64 f1, .slice A1 n1 c1]] w fun e w' => ∃ B0 d0 B1 d1, e = .returned (.agg #[.slice B0 n0 d0, .int .i64 f1, .slice B1 n1 d1]) ∧ w'.ownsRow w.heap.size 3 1 (.slice B0 n0 d0) n0 (ints l0) ∧ w'.ownsRow w.heap.size 73 3 (.slice B1 n1 d1) n1 (l1.flatMap Ver.cells) ∧ Hid (Apart (.slice B0 n0 d0) (.slice B1 n1 d1)) ∧ Ext w w' := by
  go_enter Try.func21, Try.ntmps21
  go_wp2_with fail
  refine (toIntS_any _ _ _ _ _ S0 (hs0.ext ((((Ext.refl' w).al _).al _).al _)) hm0).mono ?_
  rintro e w1 ⟨B0, d0, rfl, o0, x1⟩
  have z1 : w.heap.size + 3 ≤ w1.heap.size := by have h := x1.size; (try simp at h); omega
  have ba1 : Hid (Bx w1 (w.heap.size) 36 #[.slice A0 n0 c0, .int .i64 f1, .slice A1 n1 c1]) := Bx.ext (((Bx.new' _ _ _ rfl).al _).al _) x1
  have br1 : Hid (Bx w1 (w.heap.size + 1) 25 #[.slice none 0 0, .int .i64 0, .slice none 0 0]) := Bx.ext ((Bx.new' _ _ _ (by simp)).al _) x1
  have bo1 : Hid (Bx w1 (w.heap.size + 2) 25 #[.slice none 0 0, .int .i64 0, .slice none 0 0]) := Bx.ext (Bx.new' _ _ _ (by simp)) x1
  have X1 : Ext w w1 := Ext.tr ((((Ext.refl' w).al _).al _).al _) x1
  have O0 : Hid (∀ g, (Value.slice B0 n0 d0).ownBlock = some g → w.heap.size + 3 ≤ g ∧ g < w1.heap.size) := fun g hg => by have h1 := o0.lt g hg; simp at h1; omega
  replace o0 := own_base o0 (b' := w.heap.size) (by simp; try omega)
  clear x1
  have ca1_1 : w1.cell? ⟨w.heap.size, 1, none⟩ = some (.int .i64 f1) := ba1.out.cell 1
  have ca1_2 : w1.cell? ⟨w.heap.size, 2, none⟩ = some (.slice A1 n1 c1) := ba1.out.cell 2
  have co1_0 : w1.cell? ⟨w.heap.size + 2, 0, none⟩ = some (.slice none 0 0) := bo1.out.cell 0
  have co1_1 : w1.cell? ⟨w.heap.size + 2, 1, none⟩ = some (.int .i64 0) := bo1.out.cell 1
  have fo1_0 : w1.frozen? ⟨w.heap.size + 2, 0, none⟩ = false := bo1.out.frozen 0
  have fo1_1 : w1.frozen? ⟨w.heap.size + 2, 1, none⟩ = false := bo1.out.frozen 1
  have Ho01 := Lib.hid o0
  clear o0
  go_wp2_with fail
  refine (toVerS_any _ _ _ _ _ S1 (hs1.ext (((X1).sc (by first | (simp; done) | (simp; omega)) _).sc (by first | (simp; done) | (simp; omega)) _)) hm1).mono ?_
  rintro e w2 ⟨B1, d1, rfl, o1, x2⟩
  have o0 := Ho01.out
  have z2 : w.heap.size + 3 ≤ w2.heap.size := by have h := x2.size; (try simp at h); omega
  have y2 : w1.heap.size ≤ w2.heap.size := by have h := x2.size; (try simp at h); exact h
  have ba2 : Hid (Bx w2 (w.heap.size) 36 #[.slice A0 n0 c0, .int .i64 f1, .slice A1 n1 c1]) := Bx.ext (((ba1.out).far (by first | (simp; done) | (simp; omega)) _).far (by first | (simp; done) | (simp; omega)) _) x2
  have br2 : Hid (Bx w2 (w.heap.size + 1) 25 #[.slice none 0 0, .int .i64 0, .slice none 0 0]) := Bx.ext (((br1.out).far (by first | (simp; done) | (simp; omega)) _).far (by first | (simp; done) | (simp; omega)) _) x2
  have bo2 : Hid (Bx w2 (w.heap.size + 2) 25 #[.slice (B0) n0 d0, .int .i64 f1, .slice none 0 0]) := Bx.ext ((((bo1.out).set_ _ _).set_ _ _).cast rfl) x2
  have X2 : Ext w w2 := Ext.tr (((X1).sc (by first | (simp; done) | (simp; omega)) _).sc (by first | (simp; done) | (simp; omega)) _) x2
  replace o0 := own_chg o0 (Chg.trans (((Chg.refl (fun g => g = w.heap.size + 2) _).sc rfl _).sc rfl _) (x2.chg _)) (fun g hg q => by have h1 := (O0.out g hg).1; have hq3 : g = w.heap.size + 2 := q; omega)
  have O1 : Hid (∀ g, (Value.slice B1 n1 d1).ownBlock = some g → w.heap.size + 3 ≤ g ∧ g < w2.heap.size) := fun g hg => by have h1 := o1.lt g hg; have h2 := z1; simp at h1; omega
  have A01 := Lib.hid (show Apart (.slice B0 n0 d0) (.slice B1 n1 d1) from fun g h1 h2 => by have q1 := (O0.out g h1).2; have q2 := (o1.lt g h2).1; simp at q2; omega)
  replace o1 := own_base o1 (b' := w.heap.size) (by have h2 := z1; simp; try omega)
  clear x2
  have co2_0 : w2.cell? ⟨w.heap.size + 2, 0, none⟩ = some (.slice (B0) n0 d0) := bo2.out.cell 0
  have co2_1 : w2.cell? ⟨w.heap.size + 2, 1, none⟩ = some (.int .i64 f1) := bo2.out.cell 1
  have co2_2 : w2.cell? ⟨w.heap.size + 2, 2, none⟩ = some (.slice none 0 0) := bo2.out.cell 2
  have fo2_2 : w2.frozen? ⟨w.heap.size + 2, 2, none⟩ = false := bo2.out.frozen 2
  have cr2_0 : w2.cell? ⟨w.heap.size + 1, 0, none⟩ = some (.slice none 0 0) := br2.out.cell 0
  have fr2_0 : w2.frozen? ⟨w.heap.size + 1, 0, none⟩ = false := br2.out.frozen 0
  have cr2_1 : w2.cell? ⟨w.heap.size + 1, 1, none⟩ = some (.int .i64 0) := br2.out.cell 1
  have fr2_1 : w2.frozen? ⟨w.heap.size + 1, 1, none⟩ = false := br2.out.frozen 1
  have cr2_2 : w2.cell? ⟨w.heap.size + 1, 2, none⟩ = some (.slice none 0 0) := br2.out.cell 2
  have fr2_2 : w2.frozen? ⟨w.heap.size + 1, 2, none⟩ = false := br2.out.frozen 2
  have Ho02 := Lib.hid o0
  have Ho12 := Lib.hid o1
  clear o0 o1
  go_wp2
  refine bodyPost_ret (v := .agg #[.slice (B0) n0 d0, .int .i64 f1, .slice (B1) n1 d1]) (by simp [results, Try.results21, go_sem, cr2_0, cr2_1, cr2_2]) rfl ⟨_, _, _, _, rfl, ?_⟩
  refine ⟨own_chg Ho02.out (((((Chg.refl (fun g => g = w.heap.size + 2 ∨ g = w.heap.size + 1) _).sc (by first | (simp; done) | (simp; omega)) _).sc (by first | (simp; done) | (simp; omega)) _).sc (by first | (simp; done) | (simp; omega)) _).sc (by first | (simp; done) | (simp; omega)) _) (fun g hg q => by have h1 := (O0.out g hg).1; have hq3 : g = w.heap.size + 2 ∨ g = w.heap.size + 1 := q; omega), own_chg Ho12.out (((((Chg.refl (fun g => g = w.heap.size + 2 ∨ g = w.heap.size + 1) _).sc (by first | (simp; done) | (simp; omega)) _).sc (by first | (simp; done) | (simp; omega)) _).sc (by first | (simp; done) | (simp; omega)) _).sc (by first | (simp; done) | (simp; omega)) _) (fun g hg q => by have h1 := (O1.out g hg).1; have hq3 : g = w.heap.size + 2 ∨ g = w.heap.size + 1 := q; omega), A01.out, ?_⟩
  exact ((((X2).sc (by first | (simp; done) | (simp; omega)) _).sc (by first | (simp; done) | (simp; omega)) _).sc (by first | (simp; done) | (simp; omega)) _).sc (by first | (simp; done) | (simp; omega)) _
set_option maxHeartbeats 4000000 in
theorem eqVersions_same (f1 : Int) (A0 : Option Addr) (n0 c0 : Nat) (l0 : List Int) (A1 : Option Addr) (n1 c1 : Nat) (l1 : List Ver) (B0 : Option Addr) (d0 : Nat) (B1 : Option Addr) (d1 : Nat) (w : World) (S0 : Nat → Prop) (hs0 : Sl w S0 1 A0 n0 (ints l0)) (hm0 : n0 ≤ 1048576) (S1 : Nat → Prop) (hs1 : Sl w S1 3 A1 n1 (l1.flatMap Ver.cells)) (hm1 : n1 ≤ 1048576) (T0 : Nat → Prop) (ht0 : Sl w T0 1 B0 n0 (ints l0)) (T1 : Nat → Prop) (ht1 : Sl w T1 3 B1 n1 (l1.flatMap Ver.cells)) :
    Calls Try.prog 14 #[.agg #[.slice A0 n0 c0, .int .i64 f1, .slice A1 n1 c1], .agg #[.slice B0 n0 d0, .int .i64 f1, .slice B1 n1 d1]] w fun e w' => e = .returned (.bool true) ∧ Ext w w' := by
  go_enter Try.func14, Try.ntmps14
  go_wp2_with fail
  refine (eqIntS_same _ _ _ _ _ _ _ S0 T0 (hs0.ext (((Ext.refl' w).al _).al _)) (ht0.ext (((Ext.refl' w).al _).al _)) (by omega)).mono ?_
  rintro e w1 ⟨rfl, x1⟩
  have z1 : w.heap.size + 2 ≤ w1.heap.size := by have h := x1.size; (try simp at h); omega
  have ba1 : Hid (Bx w1 (w.heap.size) 25 #[.slice A0 n0 c0, .int .i64 f1, .slice A1 n1 c1]) := Bx.ext ((Bx.new' _ _ _ rfl).al _) x1
  have bb1 : Hid (Bx w1 (w.heap.size + 1) 25 #[.slice B0 n0 d0, .int .i64 f1, .slice B1 n1 d1]) := Bx.ext (Bx.new' _ _ _ (by simp)) x1
  have X1 : Ext w w1 := Ext.tr (((Ext.refl' w).al _).al _) x1
  clear x1
  have ca1_1 : w1.cell? ⟨w.heap.size, 1, none⟩ = some (.int .i64 f1) := ba1.out.cell 1
  have cb1_1 : w1.cell? ⟨w.heap.size + 1, 1, none⟩ = some (.int .i64 f1) := bb1.out.cell 1
  have ca1_2 : w1.cell? ⟨w.heap.size, 2, none⟩ = some (.slice A1 n1 c1) := ba1.out.cell 2
  have cb1_2 : w1.cell? ⟨w.heap.size + 1, 2, none⟩ = some (.slice B1 n1 d1) := bb1.out.cell 2
  go_wp2_with fail
  refine (eqVerS_same _ _ _ _ _ _ _ S1 T1 (hs1.ext (X1)) (ht1.ext (X1)) (by omega)).mono ?_
  rintro e w2 ⟨rfl, x2⟩
  have z2 : w.heap.size + 2 ≤ w2.heap.size := by have h := x2.size; (try simp at h); omega
  have ba2 : Hid (Bx w2 (w.heap.size) 25 #[.slice A0 n0 c0, .int .i64 f1, .slice A1 n1 c1]) := Bx.ext (ba1.out) x2
  have bb2 : Hid (Bx w2 (w.heap.size + 1) 25 #[.slice B0 n0 d0, .int .i64 f1, .slice B1 n1 d1]) := Bx.ext (bb1.out) x2
  have X2 : Ext w w2 := Ext.tr (X1) x2
  clear x2
  go_wp2
  go_ret
  exact ⟨rfl, X2⟩
set_option maxHeartbeats 4000000 in
theorem markVersions_any (f1 : Int) (A0 : Option Addr) (n0 c0 : Nat) (l0 : List Int) (A1 : Option Addr) (n1 c1 : Nat) (l1 : List Ver) (base : Nat) (q : Int) (w : World) (o0 : w.ownsRow base 3 1 (.slice A0 n0 c0) n0 (ints l0)) (o1 : w.ownsRow base 73 3 (.slice A1 n1 c1) n1 (l1.flatMap Ver.cells)) (ap : Hid (Apart (.slice A0 n0 c0) (.slice A1 n1 c1))) (hq : 0 ≤ q) (hqn : q + (n0 : Int) + (n1 : Int) * 3 ≤ 9007199254740992) :
    Calls Try.prog 17 #[.agg #[.slice A0 n0 c0, .int .i64 f1, .slice A1 n1 c1], .int .i64 q] w fun e w' => e = .returned (.int .i64 (q + (n0 : Int) + (n1 : Int) * 3)) ∧ w'.ownsRow base 3 1 (.slice A0 n0 c0) n0 (ints (marks (q) n0)) ∧ w'.ownsRow base 73 3 (.slice A1 n1 c1) n1 ((Ver.marks (q + (n0 : Int)) n1).flatMap Ver.cells) ∧ Chg (fun k => (Value.slice A0 n0 c0).ownBlock = some k ∨ (Value.slice A1 n1 c1).ownBlock = some k) w w' := by
  have A01 := Lib.hid ap.out
  have B0 := Lib.hid o0.lt
  have H0 := Lib.hid o0
  have B1 := Lib.hid o1.lt
  have H1 := Lib.hid o1
  clear o0 o1
  go_enter Try.func17, Try.ntmps17
  go_wp2_with fail
  refine (markIntS_any _ _ _ base _ (q) _ (H0.out.alloc _) (by omega) (by omega)).mono ?_
  rintro e w1 ⟨rfl, m0, cc0⟩
  have M0 := Lib.hid m0
  have C0 := Lib.hid cc0
  replace H1 := Lib.hid (own_chg (H1.out.alloc _) C0.out (fun g h1 h2 => A01.out g h2 h1))
  have b1 : Hid (Bx w1 w.heap.size 25 #[.slice A0 n0 c0, .int .i64 f1, .slice A1 n1 c1]) := Bx.chg (Bx.new' _ _ _ rfl) cc0 (fun q => by have h := (B0.out _ q).2; omega)
  clear m0 cc0
  have ca1 : w1.cell? ⟨w.heap.size, 2, none⟩ = some (.slice A1 n1 c1) := b1.out.cell 2
  go_wp2_with fail
  refine (markVerS_any _ _ _ base _ (q + (n0 : Int)) _ H1.out (by omega) (by omega)).mono ?_
  rintro e w2 ⟨rfl, m1, cc1⟩
  have M1 := Lib.hid m1
  have C1 := Lib.hid cc1
  replace M0 := Lib.hid (own_chg M0.out C1.out (fun g h1 h2 => A01.out g h1 h2))
  have b2 : Hid (Bx w2 w.heap.size 25 #[.slice A0 n0 c0, .int .i64 f1, .slice A1 n1 c1]) := Bx.chg b1.out cc1 (fun q => by have h := (B1.out _ q).2; omega)
  clear m1 cc1
  go_wp2
  go_ret
  exact ⟨rfl, M0.out, M1.out, Chg.trans (Chg.trans ((Chg.refl _ w).al _) (C0.out.mono fun k h => .inl h)) (C1.out.mono fun k h => .inr (h))⟩
set_option maxHeartbeats 4000000 in
theorem heldVersions_any (f1 : Int) (A0 : Option Addr) (n0 c0 : Nat) (A1 : Option Addr) (n1 c1 : Nat) (q : Int) (w : World) (S0 : Nat → Prop) (hs0 : Sl w S0 1 A0 n0 (ints (marks (q) n0))) (S1 : Nat → Prop) (hs1 : Sl w S1 3 A1 n1 ((Ver.marks (q + (n0 : Int)) n1).flatMap Ver.cells)) (hq : 0 ≤ q) (hqn : q + (n0 : Int) + (n1 : Int) * 3 ≤ 9007199254740992) :
    Calls Try.prog 18 #[.agg #[.slice A0 n0 c0, .int .i64 f1, .slice A1 n1 c1], .int .i64 q] w fun e w' => e = .returned (.int .i64 (q + (n0 : Int) + (n1 : Int) * 3)) ∧ Ext w w' := by
  go_enter Try.func18, Try.ntmps18
  have p1 : (0 : Int) ≤ q + (n0 : Int) := by omega
  go_wp2_with fail
  refine (heldIntS_any _ _ _ (q) _ S0 (hs0.ext ((Ext.refl' w).al _)) (by omega) (by omega)).mono ?_
  rintro e w1 ⟨rfl, y1⟩
  have x1 := Ext.of_eq y1
  clear y1
  have b1 : Hid (Bx w1 w.heap.size 25 #[.slice A0 n0 c0, .int .i64 f1, .slice A1 n1 c1]) := Bx.ext (Bx.new' _ _ _ rfl) x1
  have X1 : Ext w w1 := Ext.tr ((Ext.refl' w).al _) x1
  clear x1
  have ca1 : w1.cell? ⟨w.heap.size, 2, none⟩ = some (.slice A1 n1 c1) := b1.out.cell 2
  have p2 : (0 : Int) ≤ q + (n0 : Int) + (n1 : Int) * 3 := by omega
  go_wp2_with fail
  refine (heldVerS_any _ _ _ (q + (n0 : Int)) _ S1 (hs1.ext (X1)) (by omega) (by omega)).mono ?_
  rintro e w2 ⟨rfl, x2⟩
  have b2 : Hid (Bx w2 w.heap.size 25 #[.slice A0 n0 c0, .int .i64 f1, .slice A1 n1 c1]) := Bx.ext (b1.out) x2
  have X2 : Ext w w2 := Ext.tr (X1) x2
  clear x2
  go_wp2
  go_ret
  exact ⟨rfl, X2⟩
end Go.Proofs.Ytnhkjgnfjphllaa
