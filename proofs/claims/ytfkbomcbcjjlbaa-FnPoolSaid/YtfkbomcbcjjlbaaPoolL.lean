/- The contracts of laws.FnExactPoolPlay and laws.FnExactPoolDrain. No condition but lengths. -/
import Derived.Test.YtfkbomcbcjjlbaaPoolV
import Derived.Test.YtfkbomcbcjjlbaaPoolH
namespace Go.Proofs.Ytfkbomcbcjjlbaa
open Go.RowKit Go.Deep
set_option linter.unusedSimpArgs false
set_option linter.unusedVariables false

theorem ctl_wtl {α : Type} {f g : α → Nat} (h : ∀ x, f x ≤ g x) : ∀ l : List α, ctl f l ≤ wtl g l
  | [] => Nat.le_refl _
  | a :: l => by
    have h1 := h a
    have h2 := ctl_wtl h l
    simp only [ctl, wtl]
    omega
theorem Pool.ca_wt (p : Pool) : Pool.ca p ≤ Pool.wt p := by
  have h := ctl_wtl (f := Order.ct) (g := Order.wt) (fun _ => Nat.le_refl _) p.queues_
  unfold Pool.ca Pool.wt
  omega
theorem pzero_wt : Pool.wt pzero ≤ 1000 := by decide
theorem poolPlay_wt (ps : List Int) (wk : Int) (l : List Pick) : Pool.wt (poolPlay ps wk l) ≤ 1000 := by
  unfold poolPlay
  split
  · rename_i h
    exact PInv.wt_le (wk := wk.toNat) h.1 (by omega) (play_inv h.1 (by omega) _ _ (by simp [pks]))
  · exact pzero_wt
theorem poolDrain_wt (ps : List Int) (wk : Int) (l : List Pick) : Pool.wt (poolDrain ps wk l).1 ≤ 1000 := by
  unfold poolDrain
  split
  · rename_i h
    exact PInv.wt_le (wk := wk.toNat) h.1 (by omega) ((drain_all h.1 200 (play_inv h.1 (by omega) _ _ (by simp [pks]))).1)
  · exact pzero_wt

theorem spec_PoolPlayR (Ap : Option Addr) (np cp : Nat) (ps : List Int) (wk : Int) (A : Option Addr) (n c : Nat) (l : List Pick) (w : World) (S : Nat → Prop) (hs : Sl w S 1 Ap np (ints ps)) (hm : np ≤ 1048576) (T : Nat → Prop) (ht : Sl w T 2 A n (l.flatMap Pick.cells)) (hn : n ≤ 1048576) :
    Calls Try.prog 23 #[.slice Ap np cp, .int .i64 wk, .slice A n c] w fun e w' => ∃ B0 m0 d0 B1 m1 d1 B2 m2 d2 B3 m3 d3 B4 m4 d4 B5 m5 d5 B6 m6 d6, e = .returned (.agg #[.slice B0 m0 d0, .slice B1 m1 d1, .slice B2 m2 d2, .slice B3 m3 d3, .slice B4 m4 d4, .slice B5 m5 d5, .slice B6 m6 d6]) ∧ Hid (Pool.W w' (fun g => w.heap.size ≤ g ∧ g < w'.heap.size) [.slice B0 m0 d0, .slice B1 m1 d1, .slice B2 m2 d2, .slice B3 m3 d3, .slice B4 m4 d4, .slice B5 m5 d5, .slice B6 m6 d6] (poolPlay ps wk l)) ∧ Ext w w' := by
  refine (spec_PoolPlay Ap np cp ps wk A n c l w S hs hm T ht hn).mono ?_
  rintro e w' ⟨vs, rfl, h⟩
  have hW := h.W (by exact poolPlay_wt ps wk l)
  obtain ⟨A0, n0, c0, A1, n1, c1, A2, n2, c2, A3, n3, c3, A4, n4, c4, A5, n5, c5, A6, n6, c6, rfl⟩ := Pool.W_cells hW
  obtain ⟨qs, H0, HC, HS, HL, HT, HR, HE, _, _, M⟩ := h
  exact ⟨A0, n0, c0, A1, n1, c1, A2, n2, c2, A3, n3, c3, A4, n4, c4, A5, n5, c5, A6, n6, c6, rfl, hW, M.ext⟩
theorem spec_PoolDrainR (Ap : Option Addr) (np cp : Nat) (ps : List Int) (wk : Int) (A : Option Addr) (n c : Nat) (l : List Pick) (w : World) (S : Nat → Prop) (hs : Sl w S 1 Ap np (ints ps)) (hm : np ≤ 1048576) (T : Nat → Prop) (ht : Sl w T 2 A n (l.flatMap Pick.cells)) (hn : n ≤ 1048576) :
    Calls Try.prog 30 #[.slice Ap np cp, .int .i64 wk, .slice A n c] w fun e w' => ∃ B0 m0 d0 B1 m1 d1 B2 m2 d2 B3 m3 d3 B4 m4 d4 B5 m5 d5 B6 m6 d6, e = .returned (.tuple #[.agg #[.slice B0 m0 d0, .slice B1 m1 d1, .slice B2 m2 d2, .slice B3 m3 d3, .slice B4 m4 d4, .slice B5 m5 d5, .slice B6 m6 d6], .int .i64 ((poolDrain ps wk l).2 : Nat)]) ∧ Hid (Pool.W w' (fun g => w.heap.size ≤ g ∧ g < w'.heap.size) [.slice B0 m0 d0, .slice B1 m1 d1, .slice B2 m2 d2, .slice B3 m3 d3, .slice B4 m4 d4, .slice B5 m5 d5, .slice B6 m6 d6] ((poolDrain ps wk l).1)) ∧ Ext w w' := by
  refine (spec_PoolDrain Ap np cp ps wk A n c l w S hs hm T ht hn).mono ?_
  rintro e w' ⟨vs, rfl, h⟩
  have hW := h.W (by exact poolDrain_wt ps wk l)
  obtain ⟨A0, n0, c0, A1, n1, c1, A2, n2, c2, A3, n3, c3, A4, n4, c4, A5, n5, c5, A6, n6, c6, rfl⟩ := Pool.W_cells hW
  obtain ⟨qs, H0, HC, HS, HL, HT, HR, HE, _, _, M⟩ := h
  exact ⟨A0, n0, c0, A1, n1, c1, A2, n2, c2, A3, n3, c3, A4, n4, c4, A5, n5, c5, A6, n6, c6, rfl, hW, M.ext⟩
theorem impl_PoolPlayR (Ap : Option Addr) (np cp : Nat) (ps : List Int) (wk : Int) (A : Option Addr) (n c : Nat) (l : List Pick) (w : World) (S : Nat → Prop) (hs : Sl w S 1 Ap np (ints ps)) (hm : np ≤ 1048576) (T : Nat → Prop) (ht : Sl w T 2 A n (l.flatMap Pick.cells)) (hn : n ≤ 1048576) :
    Calls Try.prog 25 #[.slice Ap np cp, .int .i64 wk, .slice A n c] w fun e w' => ∃ B0 m0 d0 B1 m1 d1 B2 m2 d2 B3 m3 d3 B4 m4 d4 B5 m5 d5 B6 m6 d6, e = .returned (.agg #[.slice B0 m0 d0, .slice B1 m1 d1, .slice B2 m2 d2, .slice B3 m3 d3, .slice B4 m4 d4, .slice B5 m5 d5, .slice B6 m6 d6]) ∧ Hid (Pool.W w' (fun g => w.heap.size ≤ g ∧ g < w'.heap.size) [.slice B0 m0 d0, .slice B1 m1 d1, .slice B2 m2 d2, .slice B3 m3 d3, .slice B4 m4 d4, .slice B5 m5 d5, .slice B6 m6 d6] (poolPlay ps wk l)) ∧ Ext w w' := by
  refine (impl_PoolPlay Ap np cp ps wk A n c l w S hs hm T ht hn).mono ?_
  rintro e w' ⟨vs, rfl, h⟩
  have hW := h.W (by exact poolPlay_wt ps wk l)
  obtain ⟨A0, n0, c0, A1, n1, c1, A2, n2, c2, A3, n3, c3, A4, n4, c4, A5, n5, c5, A6, n6, c6, rfl⟩ := Pool.W_cells hW
  obtain ⟨qs, H0, HC, HS, HL, HT, HR, HE, _, _, M⟩ := h
  exact ⟨A0, n0, c0, A1, n1, c1, A2, n2, c2, A3, n3, c3, A4, n4, c4, A5, n5, c5, A6, n6, c6, rfl, hW, M.ext⟩
theorem impl_PoolDrainR (Ap : Option Addr) (np cp : Nat) (ps : List Int) (wk : Int) (A : Option Addr) (n c : Nat) (l : List Pick) (w : World) (S : Nat → Prop) (hs : Sl w S 1 Ap np (ints ps)) (hm : np ≤ 1048576) (T : Nat → Prop) (ht : Sl w T 2 A n (l.flatMap Pick.cells)) (hn : n ≤ 1048576) :
    Calls Try.prog 31 #[.slice Ap np cp, .int .i64 wk, .slice A n c] w fun e w' => ∃ B0 m0 d0 B1 m1 d1 B2 m2 d2 B3 m3 d3 B4 m4 d4 B5 m5 d5 B6 m6 d6, e = .returned (.tuple #[.agg #[.slice B0 m0 d0, .slice B1 m1 d1, .slice B2 m2 d2, .slice B3 m3 d3, .slice B4 m4 d4, .slice B5 m5 d5, .slice B6 m6 d6], .int .i64 ((poolDrain ps wk l).2 : Nat)]) ∧ Hid (Pool.W w' (fun g => w.heap.size ≤ g ∧ g < w'.heap.size) [.slice B0 m0 d0, .slice B1 m1 d1, .slice B2 m2 d2, .slice B3 m3 d3, .slice B4 m4 d4, .slice B5 m5 d5, .slice B6 m6 d6] ((poolDrain ps wk l).1)) ∧ Ext w w' := by
  refine (impl_PoolDrain Ap np cp ps wk A n c l w S hs hm T ht hn).mono ?_
  rintro e w' ⟨vs, rfl, h⟩
  have hW := h.W (by exact poolDrain_wt ps wk l)
  obtain ⟨A0, n0, c0, A1, n1, c1, A2, n2, c2, A3, n3, c3, A4, n4, c4, A5, n5, c5, A6, n6, c6, rfl⟩ := Pool.W_cells hW
  obtain ⟨qs, H0, HC, HS, HL, HT, HR, HE, _, _, M⟩ := h
  exact ⟨A0, n0, c0, A1, n1, c1, A2, n2, c2, A3, n3, c3, A4, n4, c4, A5, n5, c5, A6, n6, c6, rfl, hW, M.ext⟩

set_option maxHeartbeats 8000000 in
theorem law_PoolPlay (A0 : Option Addr) (n0 c0 : Nat) (l0 : List Int) (y1 : Int) (A2 : Option Addr) (n2 c2 : Nat) (l2 : List Pick) (w : World) (hs0 : Sl w (fun _ => True) 1 A0 n0 (ints l0)) (hm0 : n0 ≤ 9223372036854775807) (hs2 : Sl w (fun _ => True) 2 A2 n2 (l2.flatMap Pick.cells)) (hm2 : n2 ≤ 9223372036854775807) :
    Calls Try.prog 6 #[.slice A0 n0 c0, .int .i64 y1, .slice A2 n2 c2] w fun e w' => e = .returned (.bool true) ∧ Ext w w' := by
  have hsO0 := hs0
  have hsO2 := hs2
  by_cases hn0 : n0 ≤ 1048576
  rotate_left
  · go_enter Try.func6, Try.ntmps6
    go_wp2
    go_ret
    exact ⟨rfl, (Ext.refl' w)⟩
  by_cases hz0 : (n2 : Int) ≤ (1048576 : Int)
  rotate_left
  · go_enter Try.func6, Try.ntmps6
    go_wp2_with fail
    refine (szPickS_any _ _ _ ((1048576 : Int)) _ (by omega) (by omega) hm2).mono ?_
    rintro e w' ⟨rfl, rfl⟩
    rw [if_neg (by omega)]
    go_wp2
    go_ret
    exact ⟨rfl, (Ext.refl' w)⟩
  have hN0 : n0 ≤ 1048576 := by omega
  have hN2 : n2 ≤ 1048576 := by omega
  go_enter Try.func6, Try.ntmps6
  go_wp2_with fail
  refine (szPickS_any _ _ _ ((1048576 : Int)) _ (by omega) (by omega) hm2).mono ?_
  rintro e w' ⟨rfl, rfl⟩
  rw [if_pos (by omega)]
  go_wp2_with fail
  refine (toIntS_any _ _ _ _ _ _ hs0 hN0).mono ?_
  rintro e w1 ⟨B1_0, d1_0, rfl, o1_0, x1⟩
  have zw1 : w.heap.size + 0 ≤ w1.heap.size := by have h := x1.size; (try simp at h); omega
  have xx := x1
  replace hs0 := hsO0.ext xx
  replace hs2 := hsO2.ext xx
  clear x1
  have r1_0 : Hid (∀ g, (Value.slice B1_0 n0 d1_0).ownBlock = some g → w.heap.size + 0 ≤ g ∧ g < w1.heap.size) := fun g hg => by have h := o1_0.lt g hg; (try simp only [World.heap_alloc_size] at h); omega
  go_wp2_with fail
  refine (toPickS_any _ _ _ _ _ _ hs2 hN2).mono ?_
  rintro e w2 ⟨B2_0, d2_0, rfl, o2_0, x2⟩
  have zw2 : w1.heap.size + 0 ≤ w2.heap.size := by have h := x2.size; (try simp at h); omega
  replace o1_0 := own_ext o1_0 x2
  replace xx := xx.tr x2
  replace hs0 := hsO0.ext xx
  replace hs2 := hsO2.ext xx
  clear x2
  have r2_0 : Hid (∀ g, (Value.slice B2_0 n2 d2_0).ownBlock = some g → w1.heap.size + 0 ≤ g ∧ g < w2.heap.size) := fun g hg => by have h := o2_0.lt g hg; (try simp only [World.heap_alloc_size] at h); omega
  go_wp2_with fail
  refine (spec_PoolPlayR _ _ _ _ _ _ _ _ _ _ _ (ownSl o1_0) hN0 _ (ownSl o2_0) hN2).mono ?_
  rintro e w3 ⟨B3_0_0, m3_0_0, d3_0_0, B3_0_1, m3_0_1, d3_0_1, B3_0_2, m3_0_2, d3_0_2, B3_0_3, m3_0_3, d3_0_3, B3_0_4, m3_0_4, d3_0_4, B3_0_5, m3_0_5, d3_0_5, B3_0_6, m3_0_6, d3_0_6, rfl, o3_0, x3⟩
  have zw3 : w2.heap.size + 0 ≤ w3.heap.size := by have h := x3.size; (try simp at h); omega
  replace o1_0 := own_ext o1_0 x3
  replace o2_0 := own_ext o2_0 x3
  replace xx := xx.tr x3
  replace hs0 := hsO0.ext xx
  replace hs2 := hsO2.ext xx
  clear x3
  clear o1_0
  clear o2_0
  have bd0 : Pool.ca (poolPlay l0 y1 l2) ≤ 1000000000000 := Nat.le_trans (Pool.ca_wt _) (Nat.le_trans (poolPlay_wt _ _ _) (by decide))
  go_wp2_with fail
  refine (toIntS_any _ _ _ _ _ _ (hs0.ext ((Ext.refl' w3).al _)) hN0).mono ?_
  rintro e w4 ⟨B4_0, d4_0, rfl, o4_0, x4⟩
  have bs0 : Hid (Bx w4 (w3.heap.size) 36 #[.slice B3_0_0 m3_0_0 d3_0_0, .slice B3_0_1 m3_0_1 d3_0_1, .slice B3_0_2 m3_0_2 d3_0_2, .slice B3_0_3 m3_0_3 d3_0_3, .slice B3_0_4 m3_0_4 d3_0_4, .slice B3_0_5 m3_0_5 d3_0_5, .slice B3_0_6 m3_0_6 d3_0_6]) := Bx.ext (Bx.new' _ _ _ rfl) x4
  have zw4 : w3.heap.size + 1 ≤ w4.heap.size := by have h := x4.size; (try simp at h); omega
  replace x4 := Ext.tr ((Ext.refl' w3).al _) x4
  replace o3_0 := Lib.hid (Pool.W_good.ext o3_0.out x4)
  replace xx := xx.tr x4
  replace hs0 := hsO0.ext xx
  replace hs2 := hsO2.ext xx
  clear x4
  have r4_0 : Hid (∀ g, (Value.slice B4_0 n0 d4_0).ownBlock = some g → w3.heap.size + 1 ≤ g ∧ g < w4.heap.size) := fun g hg => by have h := o4_0.lt g hg; (try simp only [World.heap_alloc_size] at h); omega
  go_wp2_with fail
  refine (toPickS_any _ _ _ _ _ _ hs2 hN2).mono ?_
  rintro e w5 ⟨B5_0, d5_0, rfl, o5_0, x5⟩
  replace bs0 := Lib.hid (bs0.out.ext (Ext.tr (Ext.refl' w4) x5))
  have zw5 : w4.heap.size + 0 ≤ w5.heap.size := by have h := x5.size; (try simp at h); omega
  replace o3_0 := Lib.hid (Pool.W_good.ext o3_0.out x5)
  replace o4_0 := own_ext o4_0 x5
  replace xx := xx.tr x5
  replace hs0 := hsO0.ext xx
  replace hs2 := hsO2.ext xx
  clear x5
  have r5_0 : Hid (∀ g, (Value.slice B5_0 n2 d5_0).ownBlock = some g → w4.heap.size + 0 ≤ g ∧ g < w5.heap.size) := fun g hg => by have h := o5_0.lt g hg; (try simp only [World.heap_alloc_size] at h); omega
  go_wp2_with fail
  refine (impl_PoolPlayR _ _ _ _ _ _ _ _ _ _ _ (ownSl o4_0) hN0 _ (ownSl o5_0) hN2).mono ?_
  rintro e w6 ⟨B6_0_0, m6_0_0, d6_0_0, B6_0_1, m6_0_1, d6_0_1, B6_0_2, m6_0_2, d6_0_2, B6_0_3, m6_0_3, d6_0_3, B6_0_4, m6_0_4, d6_0_4, B6_0_5, m6_0_5, d6_0_5, B6_0_6, m6_0_6, d6_0_6, rfl, o6_0, x6⟩
  replace bs0 := Lib.hid (bs0.out.ext (Ext.tr (Ext.refl' w5) x6))
  have zw6 : w5.heap.size + 0 ≤ w6.heap.size := by have h := x6.size; (try simp at h); omega
  replace o3_0 := Lib.hid (Pool.W_good.ext o3_0.out x6)
  replace o4_0 := own_ext o4_0 x6
  replace o5_0 := own_ext o5_0 x6
  replace xx := xx.tr x6
  replace hs0 := hsO0.ext xx
  replace hs2 := hsO2.ext xx
  clear x6
  have ls0 : w3.heap.size < w6.heap.size := bs0.out.lt
  have es0_0 : w6.cell? ⟨w3.heap.size, 0, none⟩ = some (.slice B3_0_0 m3_0_0 d3_0_0) := bs0.out.cell 0
  have es0_1 : w6.cell? ⟨w3.heap.size, 1, none⟩ = some (.slice B3_0_1 m3_0_1 d3_0_1) := bs0.out.cell 1
  have es0_2 : w6.cell? ⟨w3.heap.size, 2, none⟩ = some (.slice B3_0_2 m3_0_2 d3_0_2) := bs0.out.cell 2
  have es0_3 : w6.cell? ⟨w3.heap.size, 3, none⟩ = some (.slice B3_0_3 m3_0_3 d3_0_3) := bs0.out.cell 3
  have es0_4 : w6.cell? ⟨w3.heap.size, 4, none⟩ = some (.slice B3_0_4 m3_0_4 d3_0_4) := bs0.out.cell 4
  have es0_5 : w6.cell? ⟨w3.heap.size, 5, none⟩ = some (.slice B3_0_5 m3_0_5 d3_0_5) := bs0.out.cell 5
  have es0_6 : w6.cell? ⟨w3.heap.size, 6, none⟩ = some (.slice B3_0_6 m3_0_6 d3_0_6) := bs0.out.cell 6
  go_wp2_with fail
  refine (eqPool_same _ _ _ _ _ _ (Pool.W_R (Pool.W_good.ext o6_0.out ((Ext.refl' w6).al _))) (Pool.W_R (Pool.W_good.ext o3_0.out ((Ext.refl' w6).al _)))).mono ?_
  rintro e w7 ⟨rfl, x7⟩
  clear ls0 es0_0 es0_1 es0_2 es0_3 es0_4 es0_5 es0_6
  replace bs0 := Lib.hid (bs0.out.ext (Ext.tr ((Ext.refl' w6).al _) x7))
  have bg0 : Hid (Bx w7 (w6.heap.size) 36 #[.slice B6_0_0 m6_0_0 d6_0_0, .slice B6_0_1 m6_0_1 d6_0_1, .slice B6_0_2 m6_0_2 d6_0_2, .slice B6_0_3 m6_0_3 d6_0_3, .slice B6_0_4 m6_0_4 d6_0_4, .slice B6_0_5 m6_0_5 d6_0_5, .slice B6_0_6 m6_0_6 d6_0_6]) := Bx.ext (Bx.new' _ _ _ rfl) x7
  have zw7 : w6.heap.size + 1 ≤ w7.heap.size := by have h := x7.size; (try simp at h); omega
  replace x7 := Ext.tr ((Ext.refl' w6).al _) x7
  replace o3_0 := Lib.hid (Pool.W_good.ext o3_0.out x7)
  replace o4_0 := own_ext o4_0 x7
  replace o5_0 := own_ext o5_0 x7
  replace o6_0 := Lib.hid (Pool.W_good.ext o6_0.out x7)
  replace xx := xx.tr x7
  replace hs0 := hsO0.ext xx
  replace hs2 := hsO2.ext xx
  clear x7
  go_wp2_with fail
  refine (toIntS_any _ _ _ _ _ _ hs0 hN0).mono ?_
  rintro e w8 ⟨B8_0, d8_0, rfl, o8_0, x8⟩
  replace bs0 := Lib.hid (bs0.out.ext (Ext.tr (Ext.refl' w7) x8))
  replace bg0 := Lib.hid (bg0.out.ext (Ext.tr (Ext.refl' w7) x8))
  have zw8 : w7.heap.size + 0 ≤ w8.heap.size := by have h := x8.size; (try simp at h); omega
  replace o3_0 := Lib.hid (Pool.W_good.ext o3_0.out x8)
  replace o4_0 := own_ext o4_0 x8
  replace o5_0 := own_ext o5_0 x8
  replace o6_0 := Lib.hid (Pool.W_good.ext o6_0.out x8)
  replace xx := xx.tr x8
  replace hs0 := hsO0.ext xx
  replace hs2 := hsO2.ext xx
  clear x8
  have r8_0 : Hid (∀ g, (Value.slice B8_0 n0 d8_0).ownBlock = some g → w7.heap.size + 0 ≤ g ∧ g < w8.heap.size) := fun g hg => by have h := o8_0.lt g hg; (try simp only [World.heap_alloc_size] at h); omega
  go_wp2_with fail
  refine (eqIntS_same _ _ _ _ _ _ _ _ _ (ownSl o4_0) (ownSl o8_0) (by omega)).mono ?_
  rintro e w9 ⟨rfl, x9⟩
  replace bs0 := Lib.hid (bs0.out.ext (Ext.tr (Ext.refl' w8) x9))
  replace bg0 := Lib.hid (bg0.out.ext (Ext.tr (Ext.refl' w8) x9))
  have zw9 : w8.heap.size + 0 ≤ w9.heap.size := by have h := x9.size; (try simp at h); omega
  replace o3_0 := Lib.hid (Pool.W_good.ext o3_0.out x9)
  replace o4_0 := own_ext o4_0 x9
  replace o5_0 := own_ext o5_0 x9
  replace o6_0 := Lib.hid (Pool.W_good.ext o6_0.out x9)
  replace o8_0 := own_ext o8_0 x9
  replace xx := xx.tr x9
  replace hs0 := hsO0.ext xx
  replace hs2 := hsO2.ext xx
  clear x9
  clear o8_0
  go_wp2_with fail
  refine (toPickS_any _ _ _ _ _ _ hs2 hN2).mono ?_
  rintro e w10 ⟨B10_0, d10_0, rfl, o10_0, x10⟩
  replace bs0 := Lib.hid (bs0.out.ext (Ext.tr (Ext.refl' w9) x10))
  replace bg0 := Lib.hid (bg0.out.ext (Ext.tr (Ext.refl' w9) x10))
  have zw10 : w9.heap.size + 0 ≤ w10.heap.size := by have h := x10.size; (try simp at h); omega
  replace o3_0 := Lib.hid (Pool.W_good.ext o3_0.out x10)
  replace o4_0 := own_ext o4_0 x10
  replace o5_0 := own_ext o5_0 x10
  replace o6_0 := Lib.hid (Pool.W_good.ext o6_0.out x10)
  replace xx := xx.tr x10
  replace hs0 := hsO0.ext xx
  replace hs2 := hsO2.ext xx
  clear x10
  have r10_0 : Hid (∀ g, (Value.slice B10_0 n2 d10_0).ownBlock = some g → w9.heap.size + 0 ≤ g ∧ g < w10.heap.size) := fun g hg => by have h := o10_0.lt g hg; (try simp only [World.heap_alloc_size] at h); omega
  go_wp2_with fail
  refine (eqPickS_same _ _ _ _ _ _ _ _ _ (ownSl o5_0) (ownSl o10_0) (by omega)).mono ?_
  rintro e w11 ⟨rfl, x11⟩
  replace bs0 := Lib.hid (bs0.out.ext (Ext.tr (Ext.refl' w10) x11))
  replace bg0 := Lib.hid (bg0.out.ext (Ext.tr (Ext.refl' w10) x11))
  have zw11 : w10.heap.size + 0 ≤ w11.heap.size := by have h := x11.size; (try simp at h); omega
  replace o3_0 := Lib.hid (Pool.W_good.ext o3_0.out x11)
  replace o4_0 := own_ext o4_0 x11
  replace o5_0 := own_ext o5_0 x11
  replace o6_0 := Lib.hid (Pool.W_good.ext o6_0.out x11)
  replace o10_0 := own_ext o10_0 x11
  replace xx := xx.tr x11
  replace hs0 := hsO0.ext xx
  replace hs2 := hsO2.ext xx
  clear x11
  clear o10_0
  go_wp2_with fail
  refine (markIntS_any _ _ _ _ _ (1) _ o4_0 (by omega) (by omega)).mono ?_
  rintro e w12 ⟨rfl, o12_0, cc⟩
  have n_b : Hid (Bx w12 (w3.heap.size) 36 #[.slice B3_0_0 m3_0_0 d3_0_0, .slice B3_0_1 m3_0_1 d3_0_1, .slice B3_0_2 m3_0_2 d3_0_2, .slice B3_0_3 m3_0_3 d3_0_3, .slice B3_0_4 m3_0_4 d3_0_4, .slice B3_0_5 m3_0_5 d3_0_5, .slice B3_0_6 m3_0_6 d3_0_6]) := Bx.chg (bs0.out) cc (fun qq => by have h2 := r4_0.out _ qq; skip; omega)
  clear bs0
  have bs0 := n_b
  clear n_b
  have n_b : Hid (Bx w12 (w6.heap.size) 36 #[.slice B6_0_0 m6_0_0 d6_0_0, .slice B6_0_1 m6_0_1 d6_0_1, .slice B6_0_2 m6_0_2 d6_0_2, .slice B6_0_3 m6_0_3 d6_0_3, .slice B6_0_4 m6_0_4 d6_0_4, .slice B6_0_5 m6_0_5 d6_0_5, .slice B6_0_6 m6_0_6 d6_0_6]) := Bx.chg (bg0.out) cc (fun qq => by have h2 := r4_0.out _ qq; skip; omega)
  clear bg0
  have bg0 := n_b
  clear n_b
  have zw12 : w11.heap.size + 0 ≤ w12.heap.size := by have h := cc.size; (try simp at h); omega
  replace o3_0 := Lib.hid (Pool.W_good.chg o3_0.out cc (fun g hg qq => by have h2 := r4_0.out _ qq; have h1 := hg; omega))
  replace o5_0 := own_chg o5_0 cc (fun g hg qq => by have h2 := r4_0.out _ qq; have h1 := r5_0.out g hg; omega)
  replace o6_0 := Lib.hid (Pool.W_good.chg o6_0.out cc (fun g hg qq => by have h2 := r4_0.out _ qq; have h1 := hg; omega))
  replace xx := cc.ext xx (fun g qq => by have h2 := r4_0.out _ qq; skip; omega)
  replace hs0 := hsO0.ext xx
  replace hs2 := hsO2.ext xx
  clear cc
  clear o4_0
  have r12_0 := r4_0
  clear o12_0
  go_wp2_with fail
  refine (markPickS_any _ _ _ _ _ (1 + (n0 : Int)) _ o5_0 (by omega) (by omega)).mono ?_
  rintro e w13 ⟨rfl, o13_0, cc⟩
  have n_b : Hid (Bx w13 (w3.heap.size) 36 #[.slice B3_0_0 m3_0_0 d3_0_0, .slice B3_0_1 m3_0_1 d3_0_1, .slice B3_0_2 m3_0_2 d3_0_2, .slice B3_0_3 m3_0_3 d3_0_3, .slice B3_0_4 m3_0_4 d3_0_4, .slice B3_0_5 m3_0_5 d3_0_5, .slice B3_0_6 m3_0_6 d3_0_6]) := Bx.chg (bs0.out) cc (fun qq => by have h2 := r5_0.out _ qq; skip; omega)
  clear bs0
  have bs0 := n_b
  clear n_b
  have n_b : Hid (Bx w13 (w6.heap.size) 36 #[.slice B6_0_0 m6_0_0 d6_0_0, .slice B6_0_1 m6_0_1 d6_0_1, .slice B6_0_2 m6_0_2 d6_0_2, .slice B6_0_3 m6_0_3 d6_0_3, .slice B6_0_4 m6_0_4 d6_0_4, .slice B6_0_5 m6_0_5 d6_0_5, .slice B6_0_6 m6_0_6 d6_0_6]) := Bx.chg (bg0.out) cc (fun qq => by have h2 := r5_0.out _ qq; skip; omega)
  clear bg0
  have bg0 := n_b
  clear n_b
  have zw13 : w12.heap.size + 0 ≤ w13.heap.size := by have h := cc.size; (try simp at h); omega
  replace o3_0 := Lib.hid (Pool.W_good.chg o3_0.out cc (fun g hg qq => by have h2 := r5_0.out _ qq; have h1 := hg; omega))
  replace o6_0 := Lib.hid (Pool.W_good.chg o6_0.out cc (fun g hg qq => by have h2 := r5_0.out _ qq; have h1 := hg; omega))
  replace xx := cc.ext xx (fun g qq => by have h2 := r5_0.out _ qq; skip; omega)
  replace hs0 := hsO0.ext xx
  replace hs2 := hsO2.ext xx
  clear cc
  clear o5_0
  have r13_0 := r5_0
  clear o13_0
  have hq1 : (0 : Int) ≤ 1 + (n0 : Int) + (n2 : Int) * 2 := by omega
  have eg0_0 : w13.cell? ⟨w6.heap.size, 0, none⟩ = some (.slice B6_0_0 m6_0_0 d6_0_0) := bg0.out.cell 0
  have eg0_1 : w13.cell? ⟨w6.heap.size, 1, none⟩ = some (.slice B6_0_1 m6_0_1 d6_0_1) := bg0.out.cell 1
  have eg0_2 : w13.cell? ⟨w6.heap.size, 2, none⟩ = some (.slice B6_0_2 m6_0_2 d6_0_2) := bg0.out.cell 2
  have eg0_3 : w13.cell? ⟨w6.heap.size, 3, none⟩ = some (.slice B6_0_3 m6_0_3 d6_0_3) := bg0.out.cell 3
  have eg0_4 : w13.cell? ⟨w6.heap.size, 4, none⟩ = some (.slice B6_0_4 m6_0_4 d6_0_4) := bg0.out.cell 4
  have eg0_5 : w13.cell? ⟨w6.heap.size, 5, none⟩ = some (.slice B6_0_5 m6_0_5 d6_0_5) := bg0.out.cell 5
  have eg0_6 : w13.cell? ⟨w6.heap.size, 6, none⟩ = some (.slice B6_0_6 m6_0_6 d6_0_6) := bg0.out.cell 6
  have es0_0 : w13.cell? ⟨w3.heap.size, 0, none⟩ = some (.slice B3_0_0 m3_0_0 d3_0_0) := bs0.out.cell 0
  have es0_1 : w13.cell? ⟨w3.heap.size, 1, none⟩ = some (.slice B3_0_1 m3_0_1 d3_0_1) := bs0.out.cell 1
  have es0_2 : w13.cell? ⟨w3.heap.size, 2, none⟩ = some (.slice B3_0_2 m3_0_2 d3_0_2) := bs0.out.cell 2
  have es0_3 : w13.cell? ⟨w3.heap.size, 3, none⟩ = some (.slice B3_0_3 m3_0_3 d3_0_3) := bs0.out.cell 3
  have es0_4 : w13.cell? ⟨w3.heap.size, 4, none⟩ = some (.slice B3_0_4 m3_0_4 d3_0_4) := bs0.out.cell 4
  have es0_5 : w13.cell? ⟨w3.heap.size, 5, none⟩ = some (.slice B3_0_5 m3_0_5 d3_0_5) := bs0.out.cell 5
  have es0_6 : w13.cell? ⟨w3.heap.size, 6, none⟩ = some (.slice B3_0_6 m3_0_6 d3_0_6) := bs0.out.cell 6
  go_wp2_with fail
  refine (eqPool_same _ _ _ _ _ _ (Pool.W_R o6_0.out) (Pool.W_R o3_0.out)).mono ?_
  rintro e w14 ⟨rfl, x14⟩
  clear eg0_0 eg0_1 eg0_2 eg0_3 eg0_4 eg0_5 eg0_6 es0_0 es0_1 es0_2 es0_3 es0_4 es0_5 es0_6
  replace bs0 := Lib.hid (bs0.out.ext (Ext.tr (Ext.refl' w13) x14))
  replace bg0 := Lib.hid (bg0.out.ext (Ext.tr (Ext.refl' w13) x14))
  have zw14 : w13.heap.size + 0 ≤ w14.heap.size := by have h := x14.size; (try simp at h); omega
  replace o3_0 := Lib.hid (Pool.W_good.ext o3_0.out x14)
  replace o6_0 := Lib.hid (Pool.W_good.ext o6_0.out x14)
  replace xx := xx.tr x14
  replace hs0 := hsO0.ext xx
  replace hs2 := hsO2.ext xx
  clear x14
  have eg0_0 : w14.cell? ⟨w6.heap.size, 0, none⟩ = some (.slice B6_0_0 m6_0_0 d6_0_0) := bg0.out.cell 0
  have eg0_1 : w14.cell? ⟨w6.heap.size, 1, none⟩ = some (.slice B6_0_1 m6_0_1 d6_0_1) := bg0.out.cell 1
  have eg0_2 : w14.cell? ⟨w6.heap.size, 2, none⟩ = some (.slice B6_0_2 m6_0_2 d6_0_2) := bg0.out.cell 2
  have eg0_3 : w14.cell? ⟨w6.heap.size, 3, none⟩ = some (.slice B6_0_3 m6_0_3 d6_0_3) := bg0.out.cell 3
  have eg0_4 : w14.cell? ⟨w6.heap.size, 4, none⟩ = some (.slice B6_0_4 m6_0_4 d6_0_4) := bg0.out.cell 4
  have eg0_5 : w14.cell? ⟨w6.heap.size, 5, none⟩ = some (.slice B6_0_5 m6_0_5 d6_0_5) := bg0.out.cell 5
  have eg0_6 : w14.cell? ⟨w6.heap.size, 6, none⟩ = some (.slice B6_0_6 m6_0_6 d6_0_6) := bg0.out.cell 6
  go_wp2_with fail
  refine (markPool_any _ _ (1) _ _ o6_0.out (fun g hg => by have hg2 := hg.2; (try simp only [World.heap_alloc_size]); omega) (by omega) (by omega)).mono ?_
  rintro e w15 ⟨rfl, o15_M, cc⟩
  replace o15_M := Lib.hid o15_M
  clear eg0_0 eg0_1 eg0_2 eg0_3 eg0_4 eg0_5 eg0_6
  have n_b : Hid (Bx w15 (w3.heap.size) 36 #[.slice B3_0_0 m3_0_0 d3_0_0, .slice B3_0_1 m3_0_1 d3_0_1, .slice B3_0_2 m3_0_2 d3_0_2, .slice B3_0_3 m3_0_3 d3_0_3, .slice B3_0_4 m3_0_4 d3_0_4, .slice B3_0_5 m3_0_5 d3_0_5, .slice B3_0_6 m3_0_6 d3_0_6]) := Bx.chg (bs0.out) cc (fun qq => by have h2 := qq; skip; omega)
  clear bs0
  have bs0 := n_b
  clear n_b
  have n_b : Hid (Bx w15 (w6.heap.size) 36 #[.slice B6_0_0 m6_0_0 d6_0_0, .slice B6_0_1 m6_0_1 d6_0_1, .slice B6_0_2 m6_0_2 d6_0_2, .slice B6_0_3 m6_0_3 d6_0_3, .slice B6_0_4 m6_0_4 d6_0_4, .slice B6_0_5 m6_0_5 d6_0_5, .slice B6_0_6 m6_0_6 d6_0_6]) := Bx.chg (bg0.out) cc (fun qq => by have h2 := qq; skip; omega)
  clear bg0
  have bg0 := n_b
  clear n_b
  have zw15 : w14.heap.size + 0 ≤ w15.heap.size := by have h := cc.size; (try simp at h); omega
  replace o3_0 := Lib.hid (Pool.W_good.chg o3_0.out cc (fun g hg qq => by have h2 := qq; have h1 := hg; omega))
  replace xx := cc.ext xx (fun g qq => by have h2 := qq; skip; omega)
  replace hs0 := hsO0.ext xx
  replace hs2 := hsO2.ext xx
  clear cc
  clear o6_0
  have hq2_0 : (0 : Int) ≤ 1 + (Pool.ca (poolPlay l0 y1 l2) : Nat) := by omega
  have hq3 : ((1 + (Pool.ca (poolPlay l0 y1 l2) : Nat)) != (1 + (Pool.ca (poolPlay l0 y1 l2) : Nat))) = false := by simp
  have eg0_0 : w15.cell? ⟨w6.heap.size, 0, none⟩ = some (.slice B6_0_0 m6_0_0 d6_0_0) := bg0.out.cell 0
  have eg0_1 : w15.cell? ⟨w6.heap.size, 1, none⟩ = some (.slice B6_0_1 m6_0_1 d6_0_1) := bg0.out.cell 1
  have eg0_2 : w15.cell? ⟨w6.heap.size, 2, none⟩ = some (.slice B6_0_2 m6_0_2 d6_0_2) := bg0.out.cell 2
  have eg0_3 : w15.cell? ⟨w6.heap.size, 3, none⟩ = some (.slice B6_0_3 m6_0_3 d6_0_3) := bg0.out.cell 3
  have eg0_4 : w15.cell? ⟨w6.heap.size, 4, none⟩ = some (.slice B6_0_4 m6_0_4 d6_0_4) := bg0.out.cell 4
  have eg0_5 : w15.cell? ⟨w6.heap.size, 5, none⟩ = some (.slice B6_0_5 m6_0_5 d6_0_5) := bg0.out.cell 5
  have eg0_6 : w15.cell? ⟨w6.heap.size, 6, none⟩ = some (.slice B6_0_6 m6_0_6 d6_0_6) := bg0.out.cell 6
  go_wp2_with fail
  refine (heldPool_any _ _ (1) _ _ (Pool.W_R o15_M.out) (by omega) (by omega)).mono ?_
  rintro e w16 ⟨rfl, x16⟩
  clear eg0_0 eg0_1 eg0_2 eg0_3 eg0_4 eg0_5 eg0_6
  replace bs0 := Lib.hid (bs0.out.ext (Ext.tr (Ext.refl' w15) x16))
  replace bg0 := Lib.hid (bg0.out.ext (Ext.tr (Ext.refl' w15) x16))
  have zw16 : w15.heap.size + 0 ≤ w16.heap.size := by have h := x16.size; (try simp at h); omega
  replace o3_0 := Lib.hid (Pool.W_good.ext o3_0.out x16)
  replace o15_M := Lib.hid (Pool.W_good.ext o15_M.out x16)
  replace xx := xx.tr x16
  replace hs0 := hsO0.ext xx
  replace hs2 := hsO2.ext xx
  clear x16
  go_wp2_with fail
  refine (toIntS_any _ _ _ _ _ _ hs0 hN0).mono ?_
  rintro e w17 ⟨B17_0, d17_0, rfl, o17_0, x17⟩
  replace bs0 := Lib.hid (bs0.out.ext (Ext.tr (Ext.refl' w16) x17))
  replace bg0 := Lib.hid (bg0.out.ext (Ext.tr (Ext.refl' w16) x17))
  have zw17 : w16.heap.size + 0 ≤ w17.heap.size := by have h := x17.size; (try simp at h); omega
  replace o3_0 := Lib.hid (Pool.W_good.ext o3_0.out x17)
  replace o15_M := Lib.hid (Pool.W_good.ext o15_M.out x17)
  replace xx := xx.tr x17
  replace hs0 := hsO0.ext xx
  replace hs2 := hsO2.ext xx
  clear x17
  have r17_0 : Hid (∀ g, (Value.slice B17_0 n0 d17_0).ownBlock = some g → w16.heap.size + 0 ≤ g ∧ g < w17.heap.size) := fun g hg => by have h := o17_0.lt g hg; (try simp only [World.heap_alloc_size] at h); omega
  go_wp2_with fail
  refine (toPickS_any _ _ _ _ _ _ hs2 hN2).mono ?_
  rintro e w18 ⟨B18_0, d18_0, rfl, o18_0, x18⟩
  replace bs0 := Lib.hid (bs0.out.ext (Ext.tr (Ext.refl' w17) x18))
  replace bg0 := Lib.hid (bg0.out.ext (Ext.tr (Ext.refl' w17) x18))
  have zw18 : w17.heap.size + 0 ≤ w18.heap.size := by have h := x18.size; (try simp at h); omega
  replace o3_0 := Lib.hid (Pool.W_good.ext o3_0.out x18)
  replace o15_M := Lib.hid (Pool.W_good.ext o15_M.out x18)
  replace o17_0 := own_ext o17_0 x18
  replace xx := xx.tr x18
  replace hs0 := hsO0.ext xx
  replace hs2 := hsO2.ext xx
  clear x18
  have r18_0 : Hid (∀ g, (Value.slice B18_0 n2 d18_0).ownBlock = some g → w17.heap.size + 0 ≤ g ∧ g < w18.heap.size) := fun g hg => by have h := o18_0.lt g hg; (try simp only [World.heap_alloc_size] at h); omega
  go_wp2_with fail
  refine (impl_PoolPlayR _ _ _ _ _ _ _ _ _ _ _ (ownSl o17_0) hN0 _ (ownSl o18_0) hN2).mono ?_
  rintro e w19 ⟨B19_0_0, m19_0_0, d19_0_0, B19_0_1, m19_0_1, d19_0_1, B19_0_2, m19_0_2, d19_0_2, B19_0_3, m19_0_3, d19_0_3, B19_0_4, m19_0_4, d19_0_4, B19_0_5, m19_0_5, d19_0_5, B19_0_6, m19_0_6, d19_0_6, rfl, o19_0, x19⟩
  replace bs0 := Lib.hid (bs0.out.ext (Ext.tr (Ext.refl' w18) x19))
  replace bg0 := Lib.hid (bg0.out.ext (Ext.tr (Ext.refl' w18) x19))
  have zw19 : w18.heap.size + 0 ≤ w19.heap.size := by have h := x19.size; (try simp at h); omega
  replace o3_0 := Lib.hid (Pool.W_good.ext o3_0.out x19)
  replace o15_M := Lib.hid (Pool.W_good.ext o15_M.out x19)
  replace o17_0 := own_ext o17_0 x19
  replace o18_0 := own_ext o18_0 x19
  replace xx := xx.tr x19
  replace hs0 := hsO0.ext xx
  replace hs2 := hsO2.ext xx
  clear x19
  clear o17_0
  clear o18_0
  have ls0 : w3.heap.size < w19.heap.size := bs0.out.lt
  have es0_0 : w19.cell? ⟨w3.heap.size, 0, none⟩ = some (.slice B3_0_0 m3_0_0 d3_0_0) := bs0.out.cell 0
  have es0_1 : w19.cell? ⟨w3.heap.size, 1, none⟩ = some (.slice B3_0_1 m3_0_1 d3_0_1) := bs0.out.cell 1
  have es0_2 : w19.cell? ⟨w3.heap.size, 2, none⟩ = some (.slice B3_0_2 m3_0_2 d3_0_2) := bs0.out.cell 2
  have es0_3 : w19.cell? ⟨w3.heap.size, 3, none⟩ = some (.slice B3_0_3 m3_0_3 d3_0_3) := bs0.out.cell 3
  have es0_4 : w19.cell? ⟨w3.heap.size, 4, none⟩ = some (.slice B3_0_4 m3_0_4 d3_0_4) := bs0.out.cell 4
  have es0_5 : w19.cell? ⟨w3.heap.size, 5, none⟩ = some (.slice B3_0_5 m3_0_5 d3_0_5) := bs0.out.cell 5
  have es0_6 : w19.cell? ⟨w3.heap.size, 6, none⟩ = some (.slice B3_0_6 m3_0_6 d3_0_6) := bs0.out.cell 6
  go_wp2_with fail
  refine (eqPool_same _ _ _ _ _ _ (Pool.W_R (Pool.W_good.ext o19_0.out ((Ext.refl' w19).al _))) (Pool.W_R (Pool.W_good.ext o3_0.out ((Ext.refl' w19).al _)))).mono ?_
  rintro e w20 ⟨rfl, x20⟩
  clear ls0 es0_0 es0_1 es0_2 es0_3 es0_4 es0_5 es0_6
  replace bs0 := Lib.hid (bs0.out.ext (Ext.tr ((Ext.refl' w19).al _) x20))
  replace bg0 := Lib.hid (bg0.out.ext (Ext.tr ((Ext.refl' w19).al _) x20))
  have bh0 : Hid (Bx w20 (w19.heap.size) 36 #[.slice B19_0_0 m19_0_0 d19_0_0, .slice B19_0_1 m19_0_1 d19_0_1, .slice B19_0_2 m19_0_2 d19_0_2, .slice B19_0_3 m19_0_3 d19_0_3, .slice B19_0_4 m19_0_4 d19_0_4, .slice B19_0_5 m19_0_5 d19_0_5, .slice B19_0_6 m19_0_6 d19_0_6]) := Bx.ext (Bx.new' _ _ _ rfl) x20
  have zw20 : w19.heap.size + 1 ≤ w20.heap.size := by have h := x20.size; (try simp at h); omega
  replace x20 := Ext.tr ((Ext.refl' w19).al _) x20
  replace o3_0 := Lib.hid (Pool.W_good.ext o3_0.out x20)
  replace o15_M := Lib.hid (Pool.W_good.ext o15_M.out x20)
  replace o19_0 := Lib.hid (Pool.W_good.ext o19_0.out x20)
  replace xx := xx.tr x20
  replace hs0 := hsO0.ext xx
  replace hs2 := hsO2.ext xx
  clear x20
  have eg0_0 : w20.cell? ⟨w6.heap.size, 0, none⟩ = some (.slice B6_0_0 m6_0_0 d6_0_0) := bg0.out.cell 0
  have eg0_1 : w20.cell? ⟨w6.heap.size, 1, none⟩ = some (.slice B6_0_1 m6_0_1 d6_0_1) := bg0.out.cell 1
  have eg0_2 : w20.cell? ⟨w6.heap.size, 2, none⟩ = some (.slice B6_0_2 m6_0_2 d6_0_2) := bg0.out.cell 2
  have eg0_3 : w20.cell? ⟨w6.heap.size, 3, none⟩ = some (.slice B6_0_3 m6_0_3 d6_0_3) := bg0.out.cell 3
  have eg0_4 : w20.cell? ⟨w6.heap.size, 4, none⟩ = some (.slice B6_0_4 m6_0_4 d6_0_4) := bg0.out.cell 4
  have eg0_5 : w20.cell? ⟨w6.heap.size, 5, none⟩ = some (.slice B6_0_5 m6_0_5 d6_0_5) := bg0.out.cell 5
  have eg0_6 : w20.cell? ⟨w6.heap.size, 6, none⟩ = some (.slice B6_0_6 m6_0_6 d6_0_6) := bg0.out.cell 6
  go_wp2_with fail
  refine (heldPool_any _ _ (1) _ _ (Pool.W_R o15_M.out) (by omega) (by omega)).mono ?_
  rintro e w21 ⟨rfl, x21⟩
  clear eg0_0 eg0_1 eg0_2 eg0_3 eg0_4 eg0_5 eg0_6
  replace bs0 := Lib.hid (bs0.out.ext (Ext.tr (Ext.refl' w20) x21))
  replace bg0 := Lib.hid (bg0.out.ext (Ext.tr (Ext.refl' w20) x21))
  replace bh0 := Lib.hid (bh0.out.ext (Ext.tr (Ext.refl' w20) x21))
  have zw21 : w20.heap.size + 0 ≤ w21.heap.size := by have h := x21.size; (try simp at h); omega
  replace o3_0 := Lib.hid (Pool.W_good.ext o3_0.out x21)
  replace o15_M := Lib.hid (Pool.W_good.ext o15_M.out x21)
  replace o19_0 := Lib.hid (Pool.W_good.ext o19_0.out x21)
  replace xx := xx.tr x21
  replace hs0 := hsO0.ext xx
  replace hs2 := hsO2.ext xx
  clear x21
  go_wp2
  go_ret
  exact ⟨rfl, xx⟩

set_option maxHeartbeats 8000000 in
theorem law_PoolDrain (A0 : Option Addr) (n0 c0 : Nat) (l0 : List Int) (y1 : Int) (A2 : Option Addr) (n2 c2 : Nat) (l2 : List Pick) (w : World) (hs0 : Sl w (fun _ => True) 1 A0 n0 (ints l0)) (hm0 : n0 ≤ 9223372036854775807) (hs2 : Sl w (fun _ => True) 2 A2 n2 (l2.flatMap Pick.cells)) (hm2 : n2 ≤ 9223372036854775807) :
    Calls Try.prog 7 #[.slice A0 n0 c0, .int .i64 y1, .slice A2 n2 c2] w fun e w' => e = .returned (.bool true) ∧ Ext w w' := by
  have hsO0 := hs0
  have hsO2 := hs2
  by_cases hn0 : n0 ≤ 1048576
  rotate_left
  · go_enter Try.func7, Try.ntmps7
    go_wp2
    go_ret
    exact ⟨rfl, (Ext.refl' w)⟩
  by_cases hz0 : (n2 : Int) ≤ (1048576 : Int)
  rotate_left
  · go_enter Try.func7, Try.ntmps7
    go_wp2_with fail
    refine (szPickS_any _ _ _ ((1048576 : Int)) _ (by omega) (by omega) hm2).mono ?_
    rintro e w' ⟨rfl, rfl⟩
    rw [if_neg (by omega)]
    go_wp2
    go_ret
    exact ⟨rfl, (Ext.refl' w)⟩
  have hN0 : n0 ≤ 1048576 := by omega
  have hN2 : n2 ≤ 1048576 := by omega
  go_enter Try.func7, Try.ntmps7
  go_wp2_with fail
  refine (szPickS_any _ _ _ ((1048576 : Int)) _ (by omega) (by omega) hm2).mono ?_
  rintro e w' ⟨rfl, rfl⟩
  rw [if_pos (by omega)]
  go_wp2_with fail
  refine (toIntS_any _ _ _ _ _ _ hs0 hN0).mono ?_
  rintro e w1 ⟨B1_0, d1_0, rfl, o1_0, x1⟩
  have zw1 : w.heap.size + 0 ≤ w1.heap.size := by have h := x1.size; (try simp at h); omega
  have xx := x1
  replace hs0 := hsO0.ext xx
  replace hs2 := hsO2.ext xx
  clear x1
  have r1_0 : Hid (∀ g, (Value.slice B1_0 n0 d1_0).ownBlock = some g → w.heap.size + 0 ≤ g ∧ g < w1.heap.size) := fun g hg => by have h := o1_0.lt g hg; (try simp only [World.heap_alloc_size] at h); omega
  go_wp2_with fail
  refine (toPickS_any _ _ _ _ _ _ hs2 hN2).mono ?_
  rintro e w2 ⟨B2_0, d2_0, rfl, o2_0, x2⟩
  have zw2 : w1.heap.size + 0 ≤ w2.heap.size := by have h := x2.size; (try simp at h); omega
  replace o1_0 := own_ext o1_0 x2
  replace xx := xx.tr x2
  replace hs0 := hsO0.ext xx
  replace hs2 := hsO2.ext xx
  clear x2
  have r2_0 : Hid (∀ g, (Value.slice B2_0 n2 d2_0).ownBlock = some g → w1.heap.size + 0 ≤ g ∧ g < w2.heap.size) := fun g hg => by have h := o2_0.lt g hg; (try simp only [World.heap_alloc_size] at h); omega
  go_wp2_with fail
  refine (spec_PoolDrainR _ _ _ _ _ _ _ _ _ _ _ (ownSl o1_0) hN0 _ (ownSl o2_0) hN2).mono ?_
  rintro e w3 ⟨B3_0_0, m3_0_0, d3_0_0, B3_0_1, m3_0_1, d3_0_1, B3_0_2, m3_0_2, d3_0_2, B3_0_3, m3_0_3, d3_0_3, B3_0_4, m3_0_4, d3_0_4, B3_0_5, m3_0_5, d3_0_5, B3_0_6, m3_0_6, d3_0_6, rfl, o3_0, x3⟩
  have zw3 : w2.heap.size + 0 ≤ w3.heap.size := by have h := x3.size; (try simp at h); omega
  replace o1_0 := own_ext o1_0 x3
  replace o2_0 := own_ext o2_0 x3
  replace xx := xx.tr x3
  replace hs0 := hsO0.ext xx
  replace hs2 := hsO2.ext xx
  clear x3
  clear o1_0
  clear o2_0
  have bd0 : Pool.ca ((poolDrain l0 y1 l2).1) ≤ 1000000000000 := Nat.le_trans (Pool.ca_wt _) (Nat.le_trans (poolDrain_wt _ _ _) (by decide))
  go_wp2_with fail
  refine (toIntS_any _ _ _ _ _ _ (hs0.ext ((Ext.refl' w3).al _)) hN0).mono ?_
  rintro e w4 ⟨B4_0, d4_0, rfl, o4_0, x4⟩
  have bs0 : Hid (Bx w4 (w3.heap.size) 36 #[.slice B3_0_0 m3_0_0 d3_0_0, .slice B3_0_1 m3_0_1 d3_0_1, .slice B3_0_2 m3_0_2 d3_0_2, .slice B3_0_3 m3_0_3 d3_0_3, .slice B3_0_4 m3_0_4 d3_0_4, .slice B3_0_5 m3_0_5 d3_0_5, .slice B3_0_6 m3_0_6 d3_0_6]) := Bx.ext (Bx.new' _ _ _ rfl) x4
  have zw4 : w3.heap.size + 1 ≤ w4.heap.size := by have h := x4.size; (try simp at h); omega
  replace x4 := Ext.tr ((Ext.refl' w3).al _) x4
  replace o3_0 := Lib.hid (Pool.W_good.ext o3_0.out x4)
  replace xx := xx.tr x4
  replace hs0 := hsO0.ext xx
  replace hs2 := hsO2.ext xx
  clear x4
  have r4_0 : Hid (∀ g, (Value.slice B4_0 n0 d4_0).ownBlock = some g → w3.heap.size + 1 ≤ g ∧ g < w4.heap.size) := fun g hg => by have h := o4_0.lt g hg; (try simp only [World.heap_alloc_size] at h); omega
  go_wp2_with fail
  refine (toPickS_any _ _ _ _ _ _ hs2 hN2).mono ?_
  rintro e w5 ⟨B5_0, d5_0, rfl, o5_0, x5⟩
  replace bs0 := Lib.hid (bs0.out.ext (Ext.tr (Ext.refl' w4) x5))
  have zw5 : w4.heap.size + 0 ≤ w5.heap.size := by have h := x5.size; (try simp at h); omega
  replace o3_0 := Lib.hid (Pool.W_good.ext o3_0.out x5)
  replace o4_0 := own_ext o4_0 x5
  replace xx := xx.tr x5
  replace hs0 := hsO0.ext xx
  replace hs2 := hsO2.ext xx
  clear x5
  have r5_0 : Hid (∀ g, (Value.slice B5_0 n2 d5_0).ownBlock = some g → w4.heap.size + 0 ≤ g ∧ g < w5.heap.size) := fun g hg => by have h := o5_0.lt g hg; (try simp only [World.heap_alloc_size] at h); omega
  go_wp2_with fail
  refine (impl_PoolDrainR _ _ _ _ _ _ _ _ _ _ _ (ownSl o4_0) hN0 _ (ownSl o5_0) hN2).mono ?_
  rintro e w6 ⟨B6_0_0, m6_0_0, d6_0_0, B6_0_1, m6_0_1, d6_0_1, B6_0_2, m6_0_2, d6_0_2, B6_0_3, m6_0_3, d6_0_3, B6_0_4, m6_0_4, d6_0_4, B6_0_5, m6_0_5, d6_0_5, B6_0_6, m6_0_6, d6_0_6, rfl, o6_0, x6⟩
  replace bs0 := Lib.hid (bs0.out.ext (Ext.tr (Ext.refl' w5) x6))
  have zw6 : w5.heap.size + 0 ≤ w6.heap.size := by have h := x6.size; (try simp at h); omega
  replace o3_0 := Lib.hid (Pool.W_good.ext o3_0.out x6)
  replace o4_0 := own_ext o4_0 x6
  replace o5_0 := own_ext o5_0 x6
  replace xx := xx.tr x6
  replace hs0 := hsO0.ext xx
  replace hs2 := hsO2.ext xx
  clear x6
  have ls0 : w3.heap.size < w6.heap.size := bs0.out.lt
  have es0_0 : w6.cell? ⟨w3.heap.size, 0, none⟩ = some (.slice B3_0_0 m3_0_0 d3_0_0) := bs0.out.cell 0
  have es0_1 : w6.cell? ⟨w3.heap.size, 1, none⟩ = some (.slice B3_0_1 m3_0_1 d3_0_1) := bs0.out.cell 1
  have es0_2 : w6.cell? ⟨w3.heap.size, 2, none⟩ = some (.slice B3_0_2 m3_0_2 d3_0_2) := bs0.out.cell 2
  have es0_3 : w6.cell? ⟨w3.heap.size, 3, none⟩ = some (.slice B3_0_3 m3_0_3 d3_0_3) := bs0.out.cell 3
  have es0_4 : w6.cell? ⟨w3.heap.size, 4, none⟩ = some (.slice B3_0_4 m3_0_4 d3_0_4) := bs0.out.cell 4
  have es0_5 : w6.cell? ⟨w3.heap.size, 5, none⟩ = some (.slice B3_0_5 m3_0_5 d3_0_5) := bs0.out.cell 5
  have es0_6 : w6.cell? ⟨w3.heap.size, 6, none⟩ = some (.slice B3_0_6 m3_0_6 d3_0_6) := bs0.out.cell 6
  go_wp2_with fail
  refine (eqPool_same _ _ _ _ _ _ (Pool.W_R (Pool.W_good.ext o6_0.out ((Ext.refl' w6).al _))) (Pool.W_R (Pool.W_good.ext o3_0.out ((Ext.refl' w6).al _)))).mono ?_
  rintro e w7 ⟨rfl, x7⟩
  clear ls0 es0_0 es0_1 es0_2 es0_3 es0_4 es0_5 es0_6
  replace bs0 := Lib.hid (bs0.out.ext (Ext.tr ((Ext.refl' w6).al _) x7))
  have bg0 : Hid (Bx w7 (w6.heap.size) 36 #[.slice B6_0_0 m6_0_0 d6_0_0, .slice B6_0_1 m6_0_1 d6_0_1, .slice B6_0_2 m6_0_2 d6_0_2, .slice B6_0_3 m6_0_3 d6_0_3, .slice B6_0_4 m6_0_4 d6_0_4, .slice B6_0_5 m6_0_5 d6_0_5, .slice B6_0_6 m6_0_6 d6_0_6]) := Bx.ext (Bx.new' _ _ _ rfl) x7
  have zw7 : w6.heap.size + 1 ≤ w7.heap.size := by have h := x7.size; (try simp at h); omega
  replace x7 := Ext.tr ((Ext.refl' w6).al _) x7
  replace o3_0 := Lib.hid (Pool.W_good.ext o3_0.out x7)
  replace o4_0 := own_ext o4_0 x7
  replace o5_0 := own_ext o5_0 x7
  replace o6_0 := Lib.hid (Pool.W_good.ext o6_0.out x7)
  replace xx := xx.tr x7
  replace hs0 := hsO0.ext xx
  replace hs2 := hsO2.ext xx
  clear x7
  go_wp2_with fail
  refine (toIntS_any _ _ _ _ _ _ hs0 hN0).mono ?_
  rintro e w8 ⟨B8_0, d8_0, rfl, o8_0, x8⟩
  replace bs0 := Lib.hid (bs0.out.ext (Ext.tr (Ext.refl' w7) x8))
  replace bg0 := Lib.hid (bg0.out.ext (Ext.tr (Ext.refl' w7) x8))
  have zw8 : w7.heap.size + 0 ≤ w8.heap.size := by have h := x8.size; (try simp at h); omega
  replace o3_0 := Lib.hid (Pool.W_good.ext o3_0.out x8)
  replace o4_0 := own_ext o4_0 x8
  replace o5_0 := own_ext o5_0 x8
  replace o6_0 := Lib.hid (Pool.W_good.ext o6_0.out x8)
  replace xx := xx.tr x8
  replace hs0 := hsO0.ext xx
  replace hs2 := hsO2.ext xx
  clear x8
  have r8_0 : Hid (∀ g, (Value.slice B8_0 n0 d8_0).ownBlock = some g → w7.heap.size + 0 ≤ g ∧ g < w8.heap.size) := fun g hg => by have h := o8_0.lt g hg; (try simp only [World.heap_alloc_size] at h); omega
  go_wp2_with fail
  refine (eqIntS_same _ _ _ _ _ _ _ _ _ (ownSl o4_0) (ownSl o8_0) (by omega)).mono ?_
  rintro e w9 ⟨rfl, x9⟩
  replace bs0 := Lib.hid (bs0.out.ext (Ext.tr (Ext.refl' w8) x9))
  replace bg0 := Lib.hid (bg0.out.ext (Ext.tr (Ext.refl' w8) x9))
  have zw9 : w8.heap.size + 0 ≤ w9.heap.size := by have h := x9.size; (try simp at h); omega
  replace o3_0 := Lib.hid (Pool.W_good.ext o3_0.out x9)
  replace o4_0 := own_ext o4_0 x9
  replace o5_0 := own_ext o5_0 x9
  replace o6_0 := Lib.hid (Pool.W_good.ext o6_0.out x9)
  replace o8_0 := own_ext o8_0 x9
  replace xx := xx.tr x9
  replace hs0 := hsO0.ext xx
  replace hs2 := hsO2.ext xx
  clear x9
  clear o8_0
  go_wp2_with fail
  refine (toPickS_any _ _ _ _ _ _ hs2 hN2).mono ?_
  rintro e w10 ⟨B10_0, d10_0, rfl, o10_0, x10⟩
  replace bs0 := Lib.hid (bs0.out.ext (Ext.tr (Ext.refl' w9) x10))
  replace bg0 := Lib.hid (bg0.out.ext (Ext.tr (Ext.refl' w9) x10))
  have zw10 : w9.heap.size + 0 ≤ w10.heap.size := by have h := x10.size; (try simp at h); omega
  replace o3_0 := Lib.hid (Pool.W_good.ext o3_0.out x10)
  replace o4_0 := own_ext o4_0 x10
  replace o5_0 := own_ext o5_0 x10
  replace o6_0 := Lib.hid (Pool.W_good.ext o6_0.out x10)
  replace xx := xx.tr x10
  replace hs0 := hsO0.ext xx
  replace hs2 := hsO2.ext xx
  clear x10
  have r10_0 : Hid (∀ g, (Value.slice B10_0 n2 d10_0).ownBlock = some g → w9.heap.size + 0 ≤ g ∧ g < w10.heap.size) := fun g hg => by have h := o10_0.lt g hg; (try simp only [World.heap_alloc_size] at h); omega
  go_wp2_with fail
  refine (eqPickS_same _ _ _ _ _ _ _ _ _ (ownSl o5_0) (ownSl o10_0) (by omega)).mono ?_
  rintro e w11 ⟨rfl, x11⟩
  replace bs0 := Lib.hid (bs0.out.ext (Ext.tr (Ext.refl' w10) x11))
  replace bg0 := Lib.hid (bg0.out.ext (Ext.tr (Ext.refl' w10) x11))
  have zw11 : w10.heap.size + 0 ≤ w11.heap.size := by have h := x11.size; (try simp at h); omega
  replace o3_0 := Lib.hid (Pool.W_good.ext o3_0.out x11)
  replace o4_0 := own_ext o4_0 x11
  replace o5_0 := own_ext o5_0 x11
  replace o6_0 := Lib.hid (Pool.W_good.ext o6_0.out x11)
  replace o10_0 := own_ext o10_0 x11
  replace xx := xx.tr x11
  replace hs0 := hsO0.ext xx
  replace hs2 := hsO2.ext xx
  clear x11
  clear o10_0
  go_wp2_with fail
  refine (markIntS_any _ _ _ _ _ (1) _ o4_0 (by omega) (by omega)).mono ?_
  rintro e w12 ⟨rfl, o12_0, cc⟩
  have n_b : Hid (Bx w12 (w3.heap.size) 36 #[.slice B3_0_0 m3_0_0 d3_0_0, .slice B3_0_1 m3_0_1 d3_0_1, .slice B3_0_2 m3_0_2 d3_0_2, .slice B3_0_3 m3_0_3 d3_0_3, .slice B3_0_4 m3_0_4 d3_0_4, .slice B3_0_5 m3_0_5 d3_0_5, .slice B3_0_6 m3_0_6 d3_0_6]) := Bx.chg (bs0.out) cc (fun qq => by have h2 := r4_0.out _ qq; skip; omega)
  clear bs0
  have bs0 := n_b
  clear n_b
  have n_b : Hid (Bx w12 (w6.heap.size) 36 #[.slice B6_0_0 m6_0_0 d6_0_0, .slice B6_0_1 m6_0_1 d6_0_1, .slice B6_0_2 m6_0_2 d6_0_2, .slice B6_0_3 m6_0_3 d6_0_3, .slice B6_0_4 m6_0_4 d6_0_4, .slice B6_0_5 m6_0_5 d6_0_5, .slice B6_0_6 m6_0_6 d6_0_6]) := Bx.chg (bg0.out) cc (fun qq => by have h2 := r4_0.out _ qq; skip; omega)
  clear bg0
  have bg0 := n_b
  clear n_b
  have zw12 : w11.heap.size + 0 ≤ w12.heap.size := by have h := cc.size; (try simp at h); omega
  replace o3_0 := Lib.hid (Pool.W_good.chg o3_0.out cc (fun g hg qq => by have h2 := r4_0.out _ qq; have h1 := hg; omega))
  replace o5_0 := own_chg o5_0 cc (fun g hg qq => by have h2 := r4_0.out _ qq; have h1 := r5_0.out g hg; omega)
  replace o6_0 := Lib.hid (Pool.W_good.chg o6_0.out cc (fun g hg qq => by have h2 := r4_0.out _ qq; have h1 := hg; omega))
  replace xx := cc.ext xx (fun g qq => by have h2 := r4_0.out _ qq; skip; omega)
  replace hs0 := hsO0.ext xx
  replace hs2 := hsO2.ext xx
  clear cc
  clear o4_0
  have r12_0 := r4_0
  clear o12_0
  go_wp2_with fail
  refine (markPickS_any _ _ _ _ _ (1 + (n0 : Int)) _ o5_0 (by omega) (by omega)).mono ?_
  rintro e w13 ⟨rfl, o13_0, cc⟩
  have n_b : Hid (Bx w13 (w3.heap.size) 36 #[.slice B3_0_0 m3_0_0 d3_0_0, .slice B3_0_1 m3_0_1 d3_0_1, .slice B3_0_2 m3_0_2 d3_0_2, .slice B3_0_3 m3_0_3 d3_0_3, .slice B3_0_4 m3_0_4 d3_0_4, .slice B3_0_5 m3_0_5 d3_0_5, .slice B3_0_6 m3_0_6 d3_0_6]) := Bx.chg (bs0.out) cc (fun qq => by have h2 := r5_0.out _ qq; skip; omega)
  clear bs0
  have bs0 := n_b
  clear n_b
  have n_b : Hid (Bx w13 (w6.heap.size) 36 #[.slice B6_0_0 m6_0_0 d6_0_0, .slice B6_0_1 m6_0_1 d6_0_1, .slice B6_0_2 m6_0_2 d6_0_2, .slice B6_0_3 m6_0_3 d6_0_3, .slice B6_0_4 m6_0_4 d6_0_4, .slice B6_0_5 m6_0_5 d6_0_5, .slice B6_0_6 m6_0_6 d6_0_6]) := Bx.chg (bg0.out) cc (fun qq => by have h2 := r5_0.out _ qq; skip; omega)
  clear bg0
  have bg0 := n_b
  clear n_b
  have zw13 : w12.heap.size + 0 ≤ w13.heap.size := by have h := cc.size; (try simp at h); omega
  replace o3_0 := Lib.hid (Pool.W_good.chg o3_0.out cc (fun g hg qq => by have h2 := r5_0.out _ qq; have h1 := hg; omega))
  replace o6_0 := Lib.hid (Pool.W_good.chg o6_0.out cc (fun g hg qq => by have h2 := r5_0.out _ qq; have h1 := hg; omega))
  replace xx := cc.ext xx (fun g qq => by have h2 := r5_0.out _ qq; skip; omega)
  replace hs0 := hsO0.ext xx
  replace hs2 := hsO2.ext xx
  clear cc
  clear o5_0
  have r13_0 := r5_0
  clear o13_0
  have hq1 : (0 : Int) ≤ 1 + (n0 : Int) + (n2 : Int) * 2 := by omega
  have eg0_0 : w13.cell? ⟨w6.heap.size, 0, none⟩ = some (.slice B6_0_0 m6_0_0 d6_0_0) := bg0.out.cell 0
  have eg0_1 : w13.cell? ⟨w6.heap.size, 1, none⟩ = some (.slice B6_0_1 m6_0_1 d6_0_1) := bg0.out.cell 1
  have eg0_2 : w13.cell? ⟨w6.heap.size, 2, none⟩ = some (.slice B6_0_2 m6_0_2 d6_0_2) := bg0.out.cell 2
  have eg0_3 : w13.cell? ⟨w6.heap.size, 3, none⟩ = some (.slice B6_0_3 m6_0_3 d6_0_3) := bg0.out.cell 3
  have eg0_4 : w13.cell? ⟨w6.heap.size, 4, none⟩ = some (.slice B6_0_4 m6_0_4 d6_0_4) := bg0.out.cell 4
  have eg0_5 : w13.cell? ⟨w6.heap.size, 5, none⟩ = some (.slice B6_0_5 m6_0_5 d6_0_5) := bg0.out.cell 5
  have eg0_6 : w13.cell? ⟨w6.heap.size, 6, none⟩ = some (.slice B6_0_6 m6_0_6 d6_0_6) := bg0.out.cell 6
  have es0_0 : w13.cell? ⟨w3.heap.size, 0, none⟩ = some (.slice B3_0_0 m3_0_0 d3_0_0) := bs0.out.cell 0
  have es0_1 : w13.cell? ⟨w3.heap.size, 1, none⟩ = some (.slice B3_0_1 m3_0_1 d3_0_1) := bs0.out.cell 1
  have es0_2 : w13.cell? ⟨w3.heap.size, 2, none⟩ = some (.slice B3_0_2 m3_0_2 d3_0_2) := bs0.out.cell 2
  have es0_3 : w13.cell? ⟨w3.heap.size, 3, none⟩ = some (.slice B3_0_3 m3_0_3 d3_0_3) := bs0.out.cell 3
  have es0_4 : w13.cell? ⟨w3.heap.size, 4, none⟩ = some (.slice B3_0_4 m3_0_4 d3_0_4) := bs0.out.cell 4
  have es0_5 : w13.cell? ⟨w3.heap.size, 5, none⟩ = some (.slice B3_0_5 m3_0_5 d3_0_5) := bs0.out.cell 5
  have es0_6 : w13.cell? ⟨w3.heap.size, 6, none⟩ = some (.slice B3_0_6 m3_0_6 d3_0_6) := bs0.out.cell 6
  go_wp2_with fail
  refine (eqPool_same _ _ _ _ _ _ (Pool.W_R o6_0.out) (Pool.W_R o3_0.out)).mono ?_
  rintro e w14 ⟨rfl, x14⟩
  clear eg0_0 eg0_1 eg0_2 eg0_3 eg0_4 eg0_5 eg0_6 es0_0 es0_1 es0_2 es0_3 es0_4 es0_5 es0_6
  replace bs0 := Lib.hid (bs0.out.ext (Ext.tr (Ext.refl' w13) x14))
  replace bg0 := Lib.hid (bg0.out.ext (Ext.tr (Ext.refl' w13) x14))
  have zw14 : w13.heap.size + 0 ≤ w14.heap.size := by have h := x14.size; (try simp at h); omega
  replace o3_0 := Lib.hid (Pool.W_good.ext o3_0.out x14)
  replace o6_0 := Lib.hid (Pool.W_good.ext o6_0.out x14)
  replace xx := xx.tr x14
  replace hs0 := hsO0.ext xx
  replace hs2 := hsO2.ext xx
  clear x14
  have eg0_0 : w14.cell? ⟨w6.heap.size, 0, none⟩ = some (.slice B6_0_0 m6_0_0 d6_0_0) := bg0.out.cell 0
  have eg0_1 : w14.cell? ⟨w6.heap.size, 1, none⟩ = some (.slice B6_0_1 m6_0_1 d6_0_1) := bg0.out.cell 1
  have eg0_2 : w14.cell? ⟨w6.heap.size, 2, none⟩ = some (.slice B6_0_2 m6_0_2 d6_0_2) := bg0.out.cell 2
  have eg0_3 : w14.cell? ⟨w6.heap.size, 3, none⟩ = some (.slice B6_0_3 m6_0_3 d6_0_3) := bg0.out.cell 3
  have eg0_4 : w14.cell? ⟨w6.heap.size, 4, none⟩ = some (.slice B6_0_4 m6_0_4 d6_0_4) := bg0.out.cell 4
  have eg0_5 : w14.cell? ⟨w6.heap.size, 5, none⟩ = some (.slice B6_0_5 m6_0_5 d6_0_5) := bg0.out.cell 5
  have eg0_6 : w14.cell? ⟨w6.heap.size, 6, none⟩ = some (.slice B6_0_6 m6_0_6 d6_0_6) := bg0.out.cell 6
  go_wp2_with fail
  refine (markPool_any _ _ (1) _ _ o6_0.out (fun g hg => by have hg2 := hg.2; (try simp only [World.heap_alloc_size]); omega) (by omega) (by omega)).mono ?_
  rintro e w15 ⟨rfl, o15_M, cc⟩
  replace o15_M := Lib.hid o15_M
  clear eg0_0 eg0_1 eg0_2 eg0_3 eg0_4 eg0_5 eg0_6
  have n_b : Hid (Bx w15 (w3.heap.size) 36 #[.slice B3_0_0 m3_0_0 d3_0_0, .slice B3_0_1 m3_0_1 d3_0_1, .slice B3_0_2 m3_0_2 d3_0_2, .slice B3_0_3 m3_0_3 d3_0_3, .slice B3_0_4 m3_0_4 d3_0_4, .slice B3_0_5 m3_0_5 d3_0_5, .slice B3_0_6 m3_0_6 d3_0_6]) := Bx.chg (bs0.out) cc (fun qq => by have h2 := qq; skip; omega)
  clear bs0
  have bs0 := n_b
  clear n_b
  have n_b : Hid (Bx w15 (w6.heap.size) 36 #[.slice B6_0_0 m6_0_0 d6_0_0, .slice B6_0_1 m6_0_1 d6_0_1, .slice B6_0_2 m6_0_2 d6_0_2, .slice B6_0_3 m6_0_3 d6_0_3, .slice B6_0_4 m6_0_4 d6_0_4, .slice B6_0_5 m6_0_5 d6_0_5, .slice B6_0_6 m6_0_6 d6_0_6]) := Bx.chg (bg0.out) cc (fun qq => by have h2 := qq; skip; omega)
  clear bg0
  have bg0 := n_b
  clear n_b
  have zw15 : w14.heap.size + 0 ≤ w15.heap.size := by have h := cc.size; (try simp at h); omega
  replace o3_0 := Lib.hid (Pool.W_good.chg o3_0.out cc (fun g hg qq => by have h2 := qq; have h1 := hg; omega))
  replace xx := cc.ext xx (fun g qq => by have h2 := qq; skip; omega)
  replace hs0 := hsO0.ext xx
  replace hs2 := hsO2.ext xx
  clear cc
  clear o6_0
  have hq2_0 : (0 : Int) ≤ 1 + (Pool.ca ((poolDrain l0 y1 l2).1) : Nat) := by omega
  have hq3 : ((1 + (Pool.ca ((poolDrain l0 y1 l2).1) : Nat)) != (1 + (Pool.ca ((poolDrain l0 y1 l2).1) : Nat))) = false := by simp
  have eg0_0 : w15.cell? ⟨w6.heap.size, 0, none⟩ = some (.slice B6_0_0 m6_0_0 d6_0_0) := bg0.out.cell 0
  have eg0_1 : w15.cell? ⟨w6.heap.size, 1, none⟩ = some (.slice B6_0_1 m6_0_1 d6_0_1) := bg0.out.cell 1
  have eg0_2 : w15.cell? ⟨w6.heap.size, 2, none⟩ = some (.slice B6_0_2 m6_0_2 d6_0_2) := bg0.out.cell 2
  have eg0_3 : w15.cell? ⟨w6.heap.size, 3, none⟩ = some (.slice B6_0_3 m6_0_3 d6_0_3) := bg0.out.cell 3
  have eg0_4 : w15.cell? ⟨w6.heap.size, 4, none⟩ = some (.slice B6_0_4 m6_0_4 d6_0_4) := bg0.out.cell 4
  have eg0_5 : w15.cell? ⟨w6.heap.size, 5, none⟩ = some (.slice B6_0_5 m6_0_5 d6_0_5) := bg0.out.cell 5
  have eg0_6 : w15.cell? ⟨w6.heap.size, 6, none⟩ = some (.slice B6_0_6 m6_0_6 d6_0_6) := bg0.out.cell 6
  go_wp2_with fail
  refine (heldPool_any _ _ (1) _ _ (Pool.W_R o15_M.out) (by omega) (by omega)).mono ?_
  rintro e w16 ⟨rfl, x16⟩
  clear eg0_0 eg0_1 eg0_2 eg0_3 eg0_4 eg0_5 eg0_6
  replace bs0 := Lib.hid (bs0.out.ext (Ext.tr (Ext.refl' w15) x16))
  replace bg0 := Lib.hid (bg0.out.ext (Ext.tr (Ext.refl' w15) x16))
  have zw16 : w15.heap.size + 0 ≤ w16.heap.size := by have h := x16.size; (try simp at h); omega
  replace o3_0 := Lib.hid (Pool.W_good.ext o3_0.out x16)
  replace o15_M := Lib.hid (Pool.W_good.ext o15_M.out x16)
  replace xx := xx.tr x16
  replace hs0 := hsO0.ext xx
  replace hs2 := hsO2.ext xx
  clear x16
  go_wp2_with fail
  refine (toIntS_any _ _ _ _ _ _ hs0 hN0).mono ?_
  rintro e w17 ⟨B17_0, d17_0, rfl, o17_0, x17⟩
  replace bs0 := Lib.hid (bs0.out.ext (Ext.tr (Ext.refl' w16) x17))
  replace bg0 := Lib.hid (bg0.out.ext (Ext.tr (Ext.refl' w16) x17))
  have zw17 : w16.heap.size + 0 ≤ w17.heap.size := by have h := x17.size; (try simp at h); omega
  replace o3_0 := Lib.hid (Pool.W_good.ext o3_0.out x17)
  replace o15_M := Lib.hid (Pool.W_good.ext o15_M.out x17)
  replace xx := xx.tr x17
  replace hs0 := hsO0.ext xx
  replace hs2 := hsO2.ext xx
  clear x17
  have r17_0 : Hid (∀ g, (Value.slice B17_0 n0 d17_0).ownBlock = some g → w16.heap.size + 0 ≤ g ∧ g < w17.heap.size) := fun g hg => by have h := o17_0.lt g hg; (try simp only [World.heap_alloc_size] at h); omega
  go_wp2_with fail
  refine (toPickS_any _ _ _ _ _ _ hs2 hN2).mono ?_
  rintro e w18 ⟨B18_0, d18_0, rfl, o18_0, x18⟩
  replace bs0 := Lib.hid (bs0.out.ext (Ext.tr (Ext.refl' w17) x18))
  replace bg0 := Lib.hid (bg0.out.ext (Ext.tr (Ext.refl' w17) x18))
  have zw18 : w17.heap.size + 0 ≤ w18.heap.size := by have h := x18.size; (try simp at h); omega
  replace o3_0 := Lib.hid (Pool.W_good.ext o3_0.out x18)
  replace o15_M := Lib.hid (Pool.W_good.ext o15_M.out x18)
  replace o17_0 := own_ext o17_0 x18
  replace xx := xx.tr x18
  replace hs0 := hsO0.ext xx
  replace hs2 := hsO2.ext xx
  clear x18
  have r18_0 : Hid (∀ g, (Value.slice B18_0 n2 d18_0).ownBlock = some g → w17.heap.size + 0 ≤ g ∧ g < w18.heap.size) := fun g hg => by have h := o18_0.lt g hg; (try simp only [World.heap_alloc_size] at h); omega
  go_wp2_with fail
  refine (impl_PoolDrainR _ _ _ _ _ _ _ _ _ _ _ (ownSl o17_0) hN0 _ (ownSl o18_0) hN2).mono ?_
  rintro e w19 ⟨B19_0_0, m19_0_0, d19_0_0, B19_0_1, m19_0_1, d19_0_1, B19_0_2, m19_0_2, d19_0_2, B19_0_3, m19_0_3, d19_0_3, B19_0_4, m19_0_4, d19_0_4, B19_0_5, m19_0_5, d19_0_5, B19_0_6, m19_0_6, d19_0_6, rfl, o19_0, x19⟩
  replace bs0 := Lib.hid (bs0.out.ext (Ext.tr (Ext.refl' w18) x19))
  replace bg0 := Lib.hid (bg0.out.ext (Ext.tr (Ext.refl' w18) x19))
  have zw19 : w18.heap.size + 0 ≤ w19.heap.size := by have h := x19.size; (try simp at h); omega
  replace o3_0 := Lib.hid (Pool.W_good.ext o3_0.out x19)
  replace o15_M := Lib.hid (Pool.W_good.ext o15_M.out x19)
  replace o17_0 := own_ext o17_0 x19
  replace o18_0 := own_ext o18_0 x19
  replace xx := xx.tr x19
  replace hs0 := hsO0.ext xx
  replace hs2 := hsO2.ext xx
  clear x19
  clear o17_0
  clear o18_0
  have ls0 : w3.heap.size < w19.heap.size := bs0.out.lt
  have es0_0 : w19.cell? ⟨w3.heap.size, 0, none⟩ = some (.slice B3_0_0 m3_0_0 d3_0_0) := bs0.out.cell 0
  have es0_1 : w19.cell? ⟨w3.heap.size, 1, none⟩ = some (.slice B3_0_1 m3_0_1 d3_0_1) := bs0.out.cell 1
  have es0_2 : w19.cell? ⟨w3.heap.size, 2, none⟩ = some (.slice B3_0_2 m3_0_2 d3_0_2) := bs0.out.cell 2
  have es0_3 : w19.cell? ⟨w3.heap.size, 3, none⟩ = some (.slice B3_0_3 m3_0_3 d3_0_3) := bs0.out.cell 3
  have es0_4 : w19.cell? ⟨w3.heap.size, 4, none⟩ = some (.slice B3_0_4 m3_0_4 d3_0_4) := bs0.out.cell 4
  have es0_5 : w19.cell? ⟨w3.heap.size, 5, none⟩ = some (.slice B3_0_5 m3_0_5 d3_0_5) := bs0.out.cell 5
  have es0_6 : w19.cell? ⟨w3.heap.size, 6, none⟩ = some (.slice B3_0_6 m3_0_6 d3_0_6) := bs0.out.cell 6
  go_wp2_with fail
  refine (eqPool_same _ _ _ _ _ _ (Pool.W_R (Pool.W_good.ext o19_0.out ((Ext.refl' w19).al _))) (Pool.W_R (Pool.W_good.ext o3_0.out ((Ext.refl' w19).al _)))).mono ?_
  rintro e w20 ⟨rfl, x20⟩
  clear ls0 es0_0 es0_1 es0_2 es0_3 es0_4 es0_5 es0_6
  replace bs0 := Lib.hid (bs0.out.ext (Ext.tr ((Ext.refl' w19).al _) x20))
  replace bg0 := Lib.hid (bg0.out.ext (Ext.tr ((Ext.refl' w19).al _) x20))
  have bh0 : Hid (Bx w20 (w19.heap.size) 36 #[.slice B19_0_0 m19_0_0 d19_0_0, .slice B19_0_1 m19_0_1 d19_0_1, .slice B19_0_2 m19_0_2 d19_0_2, .slice B19_0_3 m19_0_3 d19_0_3, .slice B19_0_4 m19_0_4 d19_0_4, .slice B19_0_5 m19_0_5 d19_0_5, .slice B19_0_6 m19_0_6 d19_0_6]) := Bx.ext (Bx.new' _ _ _ rfl) x20
  have zw20 : w19.heap.size + 1 ≤ w20.heap.size := by have h := x20.size; (try simp at h); omega
  replace x20 := Ext.tr ((Ext.refl' w19).al _) x20
  replace o3_0 := Lib.hid (Pool.W_good.ext o3_0.out x20)
  replace o15_M := Lib.hid (Pool.W_good.ext o15_M.out x20)
  replace o19_0 := Lib.hid (Pool.W_good.ext o19_0.out x20)
  replace xx := xx.tr x20
  replace hs0 := hsO0.ext xx
  replace hs2 := hsO2.ext xx
  clear x20
  have eg0_0 : w20.cell? ⟨w6.heap.size, 0, none⟩ = some (.slice B6_0_0 m6_0_0 d6_0_0) := bg0.out.cell 0
  have eg0_1 : w20.cell? ⟨w6.heap.size, 1, none⟩ = some (.slice B6_0_1 m6_0_1 d6_0_1) := bg0.out.cell 1
  have eg0_2 : w20.cell? ⟨w6.heap.size, 2, none⟩ = some (.slice B6_0_2 m6_0_2 d6_0_2) := bg0.out.cell 2
  have eg0_3 : w20.cell? ⟨w6.heap.size, 3, none⟩ = some (.slice B6_0_3 m6_0_3 d6_0_3) := bg0.out.cell 3
  have eg0_4 : w20.cell? ⟨w6.heap.size, 4, none⟩ = some (.slice B6_0_4 m6_0_4 d6_0_4) := bg0.out.cell 4
  have eg0_5 : w20.cell? ⟨w6.heap.size, 5, none⟩ = some (.slice B6_0_5 m6_0_5 d6_0_5) := bg0.out.cell 5
  have eg0_6 : w20.cell? ⟨w6.heap.size, 6, none⟩ = some (.slice B6_0_6 m6_0_6 d6_0_6) := bg0.out.cell 6
  go_wp2_with fail
  refine (heldPool_any _ _ (1) _ _ (Pool.W_R o15_M.out) (by omega) (by omega)).mono ?_
  rintro e w21 ⟨rfl, x21⟩
  clear eg0_0 eg0_1 eg0_2 eg0_3 eg0_4 eg0_5 eg0_6
  replace bs0 := Lib.hid (bs0.out.ext (Ext.tr (Ext.refl' w20) x21))
  replace bg0 := Lib.hid (bg0.out.ext (Ext.tr (Ext.refl' w20) x21))
  replace bh0 := Lib.hid (bh0.out.ext (Ext.tr (Ext.refl' w20) x21))
  have zw21 : w20.heap.size + 0 ≤ w21.heap.size := by have h := x21.size; (try simp at h); omega
  replace o3_0 := Lib.hid (Pool.W_good.ext o3_0.out x21)
  replace o15_M := Lib.hid (Pool.W_good.ext o15_M.out x21)
  replace o19_0 := Lib.hid (Pool.W_good.ext o19_0.out x21)
  replace xx := xx.tr x21
  replace hs0 := hsO0.ext xx
  replace hs2 := hsO2.ext xx
  clear x21
  go_wp2
  go_ret
  exact ⟨rfl, xx⟩

end Go.Proofs.Ytfkbomcbcjjlbaa
