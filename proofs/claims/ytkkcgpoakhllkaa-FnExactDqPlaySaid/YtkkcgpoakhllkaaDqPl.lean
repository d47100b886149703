/- The contract of laws.FnExactDqPlay. No condition but lengths. -/
import Derived.Test.YtkkcgpoakhllkaaDqPS
namespace Go.Proofs.Ytkkcgpoakhllkaa
open Go.RowKit Go.Deep
set_option linter.unusedSimpArgs false
set_option linter.unusedVariables false

theorem dqPlay_len (t : Int) (l : List DqAct) : (dqPlay t l).items.length ≤ 40 ∧ (dqPlay t l).th.length ≤ 3 ∧ (dqPlay t l).took.length ≤ 300 := by
  unfold dqPlay
  split
  · rename_i h
    have I := inv_play t.toNat l l.length (Nat.le_refl _)
    have h1 := I.vb
    have h2 := I.th
    have h3 := I.tk
    exact ⟨h1.2.2, by omega, by omega⟩
  · simp [dzero]

theorem spec_DqPlayR (t : Int) (A : Option Addr) (n c : Nat) (l : List DqAct) (w : World) (S : Nat → Prop) (hs : Sl w S 2 A n (l.flatMap DqAct.cells)) (hm : n ≤ 1048576) :
    Calls Try.prog 24 #[.int .i64 t, .slice A n c] w fun e w' => ∃ B0 m0 d0 B1 m1 d1 B2 m2 d2, e = .returned (.agg #[.int .i64 (dqPlay t l).top, .int .i64 (dqPlay t l).bottom, .int .i64 (dqPlay t l).next, .slice B0 m0 d0, .int .i64 (dqPlay t l).own.phase, .int .i64 (dqPlay t l).own.b, .int .i64 (dqPlay t l).own.t, .slice B1 m1 d1, .slice B2 m2 d2]) ∧
      w'.ownsRow w.heap.size 3 1 (.slice B0 m0 d0) m0 (ints (dqPlay t l).items) ∧ w'.ownsRow w.heap.size 67 4 (.slice B1 m1 d1) m1 ((dqPlay t l).th.flatMap Thief.cells) ∧ w'.ownsRow w.heap.size 57 2 (.slice B2 m2 d2) m2 ((dqPlay t l).took.flatMap Taken.cells) ∧ Hid (Apart (.slice B0 m0 d0) (.slice B1 m1 d1) ∧ Apart (.slice B0 m0 d0) (.slice B2 m2 d2) ∧ Apart (.slice B1 m1 d1) (.slice B2 m2 d2)) ∧ Ext w w' := by
  refine (spec_DqPlay t A n c l w S hs hm).mono ?_
  rintro e w' ⟨vs, rfl, B0, m0, d0, B1, m1, d1, B2, m2, d2, rfl, M⟩
  exact ⟨B0, m0, d0, B1, m1, d1, B2, m2, d2, rfl, M.row_at 0 rfl, M.row_at 1 rfl, M.row_at 2 rfl, ⟨fun g a b => M.far_of (i := 0) (j := 1) rfl rfl (by omega) g a b, fun g a b => M.far_of (i := 0) (j := 2) rfl rfl (by omega) g a b, fun g a b => M.far_of (i := 1) (j := 2) rfl rfl (by omega) g a b⟩, M.ext⟩
theorem impl_DqPlayR (t : Int) (A : Option Addr) (n c : Nat) (l : List DqAct) (w : World) (S : Nat → Prop) (hs : Sl w S 2 A n (l.flatMap DqAct.cells)) (hm : n ≤ 1048576) :
    Calls Try.prog 25 #[.int .i64 t, .slice A n c] w fun e w' => ∃ B0 m0 d0 B1 m1 d1 B2 m2 d2, e = .returned (.agg #[.int .i64 (dqPlay t l).top, .int .i64 (dqPlay t l).bottom, .int .i64 (dqPlay t l).next, .slice B0 m0 d0, .int .i64 (dqPlay t l).own.phase, .int .i64 (dqPlay t l).own.b, .int .i64 (dqPlay t l).own.t, .slice B1 m1 d1, .slice B2 m2 d2]) ∧
      w'.ownsRow w.heap.size 3 1 (.slice B0 m0 d0) m0 (ints (dqPlay t l).items) ∧ w'.ownsRow w.heap.size 67 4 (.slice B1 m1 d1) m1 ((dqPlay t l).th.flatMap Thief.cells) ∧ w'.ownsRow w.heap.size 57 2 (.slice B2 m2 d2) m2 ((dqPlay t l).took.flatMap Taken.cells) ∧ Hid (Apart (.slice B0 m0 d0) (.slice B1 m1 d1) ∧ Apart (.slice B0 m0 d0) (.slice B2 m2 d2) ∧ Apart (.slice B1 m1 d1) (.slice B2 m2 d2)) ∧ Ext w w' := by
  refine (impl_DqPlay t A n c l w S hs hm).mono ?_
  rintro e w' ⟨vs, rfl, B0, m0, d0, B1, m1, d1, B2, m2, d2, rfl, M⟩
  exact ⟨B0, m0, d0, B1, m1, d1, B2, m2, d2, rfl, M.row_at 0 rfl, M.row_at 1 rfl, M.row_at 2 rfl, ⟨fun g a b => M.far_of (i := 0) (j := 1) rfl rfl (by omega) g a b, fun g a b => M.far_of (i := 0) (j := 2) rfl rfl (by omega) g a b, fun g a b => M.far_of (i := 1) (j := 2) rfl rfl (by omega) g a b⟩, M.ext⟩

set_option maxHeartbeats 8000000 in
theorem law_DqPlay (y0 : Int) (A1 : Option Addr) (n1 c1 : Nat) (l1 : List DqAct) (w : World) (hs1 : Sl w (fun _ => True) 2 A1 n1 (l1.flatMap DqAct.cells)) (hm1 : n1 ≤ 9223372036854775807) :
    Calls Try.prog 6 #[.int .i64 y0, .slice A1 n1 c1] w fun e w' => e = .returned (.bool true) ∧ Ext w w' := by
  have hsO1 := hs1
  by_cases hz0 : (n1 : Int) ≤ (1048576 : Int)
  rotate_left
  · go_enter Try.func6, Try.ntmps6
    go_wp2_with fail
    refine (szDqActS_any _ _ _ ((1048576 : Int)) _ (by omega) (by omega) hm1).mono ?_
    rintro e w' ⟨rfl, rfl⟩
    rw [if_neg (by omega)]
    go_wp2
    go_ret
    exact ⟨rfl, (Ext.refl' w)⟩
  have hN1 : n1 ≤ 1048576 := by omega
  go_enter Try.func6, Try.ntmps6
  go_wp2_with fail
  refine (szDqActS_any _ _ _ ((1048576 : Int)) _ (by omega) (by omega) hm1).mono ?_
  rintro e w' ⟨rfl, rfl⟩
  rw [if_pos (by omega)]
  go_wp2_with fail
  refine (toDqActS_any _ _ _ _ _ _ hs1 hN1).mono ?_
  rintro e w1 ⟨B1_0, d1_0, rfl, o1_0, x1⟩
  have zw1 : w.heap.size + 0 ≤ w1.heap.size := by have h := x1.size; (try simp at h); omega
  have xx := x1
  replace hs1 := hsO1.ext xx
  clear x1
  have r1_0 : Hid (∀ g, (Value.slice B1_0 n1 d1_0).ownBlock = some g → w.heap.size + 0 ≤ g ∧ g < w1.heap.size) := fun g hg => by have h := o1_0.lt g hg; (try simp only [World.heap_alloc_size] at h); omega
  go_wp2_with fail
  refine (spec_DqPlayR _ _ _ _ _ _ _ (ownSl o1_0) hN1).mono ?_
  rintro e w2 ⟨B2_0_0, m2_0_0, d2_0_0, B2_0_1, m2_0_1, d2_0_1, B2_0_2, m2_0_2, d2_0_2, rfl, o2_0_0, o2_0_1, o2_0_2, ap2_0, x2⟩
  have zw2 : w1.heap.size + 0 ≤ w2.heap.size := by have h := x2.size; (try simp at h); omega
  replace o1_0 := own_ext o1_0 x2
  replace xx := xx.tr x2
  replace hs1 := hsO1.ext xx
  clear x2
  have r2_0_0 : Hid (∀ g, (Value.slice B2_0_0 m2_0_0 d2_0_0).ownBlock = some g → w1.heap.size + 0 ≤ g ∧ g < w2.heap.size) := fun g hg => by have h := o2_0_0.lt g hg; (try simp only [World.heap_alloc_size] at h); omega
  have r2_0_1 : Hid (∀ g, (Value.slice B2_0_1 m2_0_1 d2_0_1).ownBlock = some g → w1.heap.size + 0 ≤ g ∧ g < w2.heap.size) := fun g hg => by have h := o2_0_1.lt g hg; (try simp only [World.heap_alloc_size] at h); omega
  have r2_0_2 : Hid (∀ g, (Value.slice B2_0_2 m2_0_2 d2_0_2).ownBlock = some g → w1.heap.size + 0 ≤ g ∧ g < w2.heap.size) := fun g hg => by have h := o2_0_2.lt g hg; (try simp only [World.heap_alloc_size] at h); omega
  clear o1_0
  have bd0_0 : m2_0_0 ≤ 1048576 := by have h1 := own_len o2_0_0; have h2 := dqPlay_len y0 l1; rw [ints_length] at h1; omega
  have bd0_1 : m2_0_1 ≤ 1048576 := by have h1 := o2_0_1.1; have h2 := dqPlay_len y0 l1; rw [flat_length Thief.cells_length] at h1; omega
  have bd0_2 : m2_0_2 ≤ 1048576 := by have h1 := o2_0_2.1; have h2 := dqPlay_len y0 l1; rw [flat_length Taken.cells_length] at h1; omega
  go_wp2_with fail
  refine (toDqActS_any _ _ _ _ _ _ (hs1.ext ((Ext.refl' w2).al _)) hN1).mono ?_
  rintro e w3 ⟨B3_0, d3_0, rfl, o3_0, x3⟩
  have bs0 : Hid (Bx w3 (w2.heap.size) 42 #[.int .i64 (dqPlay y0 l1).top, .int .i64 (dqPlay y0 l1).bottom, .int .i64 (dqPlay y0 l1).next, .slice B2_0_0 m2_0_0 d2_0_0, .int .i64 (dqPlay y0 l1).own.phase, .int .i64 (dqPlay y0 l1).own.b, .int .i64 (dqPlay y0 l1).own.t, .slice B2_0_1 m2_0_1 d2_0_1, .slice B2_0_2 m2_0_2 d2_0_2]) := Bx.ext (Bx.new' _ _ _ rfl) x3
  have zw3 : w2.heap.size + 1 ≤ w3.heap.size := by have h := x3.size; (try simp at h); omega
  replace x3 := Ext.tr ((Ext.refl' w2).al _) x3
  replace o2_0_0 := own_ext o2_0_0 x3
  replace o2_0_1 := own_ext o2_0_1 x3
  replace o2_0_2 := own_ext o2_0_2 x3
  replace xx := xx.tr x3
  replace hs1 := hsO1.ext xx
  clear x3
  have r3_0 : Hid (∀ g, (Value.slice B3_0 n1 d3_0).ownBlock = some g → w2.heap.size + 1 ≤ g ∧ g < w3.heap.size) := fun g hg => by have h := o3_0.lt g hg; (try simp only [World.heap_alloc_size] at h); omega
  go_wp2_with fail
  refine (impl_DqPlayR _ _ _ _ _ _ _ (ownSl o3_0) hN1).mono ?_
  rintro e w4 ⟨B4_0_0, m4_0_0, d4_0_0, B4_0_1, m4_0_1, d4_0_1, B4_0_2, m4_0_2, d4_0_2, rfl, o4_0_0, o4_0_1, o4_0_2, ap4_0, x4⟩
  replace bs0 := Lib.hid (bs0.out.ext (Ext.tr (Ext.refl' w3) x4))
  have zw4 : w3.heap.size + 0 ≤ w4.heap.size := by have h := x4.size; (try simp at h); omega
  replace o2_0_0 := own_ext o2_0_0 x4
  replace o2_0_1 := own_ext o2_0_1 x4
  replace o2_0_2 := own_ext o2_0_2 x4
  replace o3_0 := own_ext o3_0 x4
  replace xx := xx.tr x4
  replace hs1 := hsO1.ext xx
  clear x4
  have r4_0_0 : Hid (∀ g, (Value.slice B4_0_0 m4_0_0 d4_0_0).ownBlock = some g → w3.heap.size + 0 ≤ g ∧ g < w4.heap.size) := fun g hg => by have h := o4_0_0.lt g hg; (try simp only [World.heap_alloc_size] at h); omega
  have r4_0_1 : Hid (∀ g, (Value.slice B4_0_1 m4_0_1 d4_0_1).ownBlock = some g → w3.heap.size + 0 ≤ g ∧ g < w4.heap.size) := fun g hg => by have h := o4_0_1.lt g hg; (try simp only [World.heap_alloc_size] at h); omega
  have r4_0_2 : Hid (∀ g, (Value.slice B4_0_2 m4_0_2 d4_0_2).ownBlock = some g → w3.heap.size + 0 ≤ g ∧ g < w4.heap.size) := fun g hg => by have h := o4_0_2.lt g hg; (try simp only [World.heap_alloc_size] at h); omega
  obtain rfl : m2_0_0 = m4_0_0 := by have h1 := o2_0_0.1; have h2 := o4_0_0.1; omega
  obtain rfl : m2_0_1 = m4_0_1 := by have h1 := o2_0_1.1; have h2 := o4_0_1.1; omega
  obtain rfl : m2_0_2 = m4_0_2 := by have h1 := o2_0_2.1; have h2 := o4_0_2.1; omega
  have ls0 : w2.heap.size < w4.heap.size := bs0.out.lt
  have es0_0 : w4.cell? ⟨w2.heap.size, 0, none⟩ = some (.int .i64 (dqPlay y0 l1).top) := bs0.out.cell 0
  have es0_1 : w4.cell? ⟨w2.heap.size, 1, none⟩ = some (.int .i64 (dqPlay y0 l1).bottom) := bs0.out.cell 1
  have es0_2 : w4.cell? ⟨w2.heap.size, 2, none⟩ = some (.int .i64 (dqPlay y0 l1).next) := bs0.out.cell 2
  have es0_3 : w4.cell? ⟨w2.heap.size, 3, none⟩ = some (.slice B2_0_0 m2_0_0 d2_0_0) := bs0.out.cell 3
  have es0_4 : w4.cell? ⟨w2.heap.size, 4, none⟩ = some (.int .i64 (dqPlay y0 l1).own.phase) := bs0.out.cell 4
  have es0_5 : w4.cell? ⟨w2.heap.size, 5, none⟩ = some (.int .i64 (dqPlay y0 l1).own.b) := bs0.out.cell 5
  have es0_6 : w4.cell? ⟨w2.heap.size, 6, none⟩ = some (.int .i64 (dqPlay y0 l1).own.t) := bs0.out.cell 6
  have es0_7 : w4.cell? ⟨w2.heap.size, 7, none⟩ = some (.slice B2_0_1 m2_0_1 d2_0_1) := bs0.out.cell 7
  have es0_8 : w4.cell? ⟨w2.heap.size, 8, none⟩ = some (.slice B2_0_2 m2_0_2 d2_0_2) := bs0.out.cell 8
  go_wp2_with fail
  refine (eqDeque_same _ _ _ _ _ _ _ _ _ _ _ _ _ _ _ _ _ _ _ _ _ _ _ _ _ _ (ownSl (own_ext o4_0_0 ((Ext.refl' w4).al _))) (by omega) _ (ownSl (own_ext o4_0_1 ((Ext.refl' w4).al _))) (by omega) _ (ownSl (own_ext o4_0_2 ((Ext.refl' w4).al _))) (by omega) _ (ownSl (own_ext o2_0_0 ((Ext.refl' w4).al _))) _ (ownSl (own_ext o2_0_1 ((Ext.refl' w4).al _))) _ (ownSl (own_ext o2_0_2 ((Ext.refl' w4).al _)))).mono ?_
  rintro e w5 ⟨rfl, x5⟩
  clear ls0 es0_0 es0_1 es0_2 es0_3 es0_4 es0_5 es0_6 es0_7 es0_8
  replace bs0 := Lib.hid (bs0.out.ext (Ext.tr ((Ext.refl' w4).al _) x5))
  have bg0 : Hid (Bx w5 (w4.heap.size) 42 #[.int .i64 (dqPlay y0 l1).top, .int .i64 (dqPlay y0 l1).bottom, .int .i64 (dqPlay y0 l1).next, .slice B4_0_0 m2_0_0 d4_0_0, .int .i64 (dqPlay y0 l1).own.phase, .int .i64 (dqPlay y0 l1).own.b, .int .i64 (dqPlay y0 l1).own.t, .slice B4_0_1 m2_0_1 d4_0_1, .slice B4_0_2 m2_0_2 d4_0_2]) := Bx.ext (Bx.new' _ _ _ rfl) x5
  have zw5 : w4.heap.size + 1 ≤ w5.heap.size := by have h := x5.size; (try simp at h); omega
  replace x5 := Ext.tr ((Ext.refl' w4).al _) x5
  replace o2_0_0 := own_ext o2_0_0 x5
  replace o2_0_1 := own_ext o2_0_1 x5
  replace o2_0_2 := own_ext o2_0_2 x5
  replace o3_0 := own_ext o3_0 x5
  replace o4_0_0 := own_ext o4_0_0 x5
  replace o4_0_1 := own_ext o4_0_1 x5
  replace o4_0_2 := own_ext o4_0_2 x5
  replace xx := xx.tr x5
  replace hs1 := hsO1.ext xx
  clear x5
  go_wp2_with fail
  refine (toDqActS_any _ _ _ _ _ _ hs1 hN1).mono ?_
  rintro e w6 ⟨B6_0, d6_0, rfl, o6_0, x6⟩
  replace bs0 := Lib.hid (bs0.out.ext (Ext.tr (Ext.refl' w5) x6))
  replace bg0 := Lib.hid (bg0.out.ext (Ext.tr (Ext.refl' w5) x6))
  have zw6 : w5.heap.size + 0 ≤ w6.heap.size := by have h := x6.size; (try simp at h); omega
  replace o2_0_0 := own_ext o2_0_0 x6
  replace o2_0_1 := own_ext o2_0_1 x6
  replace o2_0_2 := own_ext o2_0_2 x6
  replace o3_0 := own_ext o3_0 x6
  replace o4_0_0 := own_ext o4_0_0 x6
  replace o4_0_1 := own_ext o4_0_1 x6
  replace o4_0_2 := own_ext o4_0_2 x6
  replace xx := xx.tr x6
  replace hs1 := hsO1.ext xx
  clear x6
  have r6_0 : Hid (∀ g, (Value.slice B6_0 n1 d6_0).ownBlock = some g → w5.heap.size + 0 ≤ g ∧ g < w6.heap.size) := fun g hg => by have h := o6_0.lt g hg; (try simp only [World.heap_alloc_size] at h); omega
  go_wp2_with fail
  refine (eqDqActS_same _ _ _ _ _ _ _ _ _ (ownSl o3_0) (ownSl o6_0) (by omega)).mono ?_
  rintro e w7 ⟨rfl, x7⟩
  replace bs0 := Lib.hid (bs0.out.ext (Ext.tr (Ext.refl' w6) x7))
  replace bg0 := Lib.hid (bg0.out.ext (Ext.tr (Ext.refl' w6) x7))
  have zw7 : w6.heap.size + 0 ≤ w7.heap.size := by have h := x7.size; (try simp at h); omega
  replace o2_0_0 := own_ext o2_0_0 x7
  replace o2_0_1 := own_ext o2_0_1 x7
  replace o2_0_2 := own_ext o2_0_2 x7
  replace o3_0 := own_ext o3_0 x7
  replace o4_0_0 := own_ext o4_0_0 x7
  replace o4_0_1 := own_ext o4_0_1 x7
  replace o4_0_2 := own_ext o4_0_2 x7
  replace o6_0 := own_ext o6_0 x7
  replace xx := xx.tr x7
  replace hs1 := hsO1.ext xx
  clear x7
  clear o6_0
  go_wp2_with fail
  refine (markDqActS_any _ _ _ _ _ (1) _ o3_0 (by omega) (by omega)).mono ?_
  rintro e w8 ⟨rfl, o8_0, cc⟩
  have n_b : Hid (Bx w8 (w2.heap.size) 42 #[.int .i64 (dqPlay y0 l1).top, .int .i64 (dqPlay y0 l1).bottom, .int .i64 (dqPlay y0 l1).next, .slice B2_0_0 m2_0_0 d2_0_0, .int .i64 (dqPlay y0 l1).own.phase, .int .i64 (dqPlay y0 l1).own.b, .int .i64 (dqPlay y0 l1).own.t, .slice B2_0_1 m2_0_1 d2_0_1, .slice B2_0_2 m2_0_2 d2_0_2]) := Bx.chg (bs0.out) cc (fun qq => by have h2 := r3_0.out _ qq; skip; omega)
  clear bs0
  have bs0 := n_b
  clear n_b
  have n_b : Hid (Bx w8 (w4.heap.size) 42 #[.int .i64 (dqPlay y0 l1).top, .int .i64 (dqPlay y0 l1).bottom, .int .i64 (dqPlay y0 l1).next, .slice B4_0_0 m2_0_0 d4_0_0, .int .i64 (dqPlay y0 l1).own.phase, .int .i64 (dqPlay y0 l1).own.b, .int .i64 (dqPlay y0 l1).own.t, .slice B4_0_1 m2_0_1 d4_0_1, .slice B4_0_2 m2_0_2 d4_0_2]) := Bx.chg (bg0.out) cc (fun qq => by have h2 := r3_0.out _ qq; skip; omega)
  clear bg0
  have bg0 := n_b
  clear n_b
  have zw8 : w7.heap.size + 0 ≤ w8.heap.size := by have h := cc.size; (try simp at h); omega
  replace o2_0_0 := own_chg o2_0_0 cc (fun g hg qq => by have h2 := r3_0.out _ qq; have h1 := r2_0_0.out g hg; omega)
  replace o2_0_1 := own_chg o2_0_1 cc (fun g hg qq => by have h2 := r3_0.out _ qq; have h1 := r2_0_1.out g hg; omega)
  replace o2_0_2 := own_chg o2_0_2 cc (fun g hg qq => by have h2 := r3_0.out _ qq; have h1 := r2_0_2.out g hg; omega)
  replace o4_0_0 := own_chg o4_0_0 cc (fun g hg qq => by have h2 := r3_0.out _ qq; have h1 := r4_0_0.out g hg; omega)
  replace o4_0_1 := own_chg o4_0_1 cc (fun g hg qq => by have h2 := r3_0.out _ qq; have h1 := r4_0_1.out g hg; omega)
  replace o4_0_2 := own_chg o4_0_2 cc (fun g hg qq => by have h2 := r3_0.out _ qq; have h1 := r4_0_2.out g hg; omega)
  replace xx := cc.ext xx (fun g qq => by have h2 := r3_0.out _ qq; skip; omega)
  replace hs1 := hsO1.ext xx
  clear cc
  clear o3_0
  have r8_0 := r3_0
  clear o8_0
  have hq1 : (0 : Int) ≤ 1 + (n1 : Int) * 2 := by omega
  have eg0_0 : w8.cell? ⟨w4.heap.size, 0, none⟩ = some (.int .i64 (dqPlay y0 l1).top) := bg0.out.cell 0
  have eg0_1 : w8.cell? ⟨w4.heap.size, 1, none⟩ = some (.int .i64 (dqPlay y0 l1).bottom) := bg0.out.cell 1
  have eg0_2 : w8.cell? ⟨w4.heap.size, 2, none⟩ = some (.int .i64 (dqPlay y0 l1).next) := bg0.out.cell 2
  have eg0_3 : w8.cell? ⟨w4.heap.size, 3, none⟩ = some (.slice B4_0_0 m2_0_0 d4_0_0) := bg0.out.cell 3
  have eg0_4 : w8.cell? ⟨w4.heap.size, 4, none⟩ = some (.int .i64 (dqPlay y0 l1).own.phase) := bg0.out.cell 4
  have eg0_5 : w8.cell? ⟨w4.heap.size, 5, none⟩ = some (.int .i64 (dqPlay y0 l1).own.b) := bg0.out.cell 5
  have eg0_6 : w8.cell? ⟨w4.heap.size, 6, none⟩ = some (.int .i64 (dqPlay y0 l1).own.t) := bg0.out.cell 6
  have eg0_7 : w8.cell? ⟨w4.heap.size, 7, none⟩ = some (.slice B4_0_1 m2_0_1 d4_0_1) := bg0.out.cell 7
  have eg0_8 : w8.cell? ⟨w4.heap.size, 8, none⟩ = some (.slice B4_0_2 m2_0_2 d4_0_2) := bg0.out.cell 8
  have es0_0 : w8.cell? ⟨w2.heap.size, 0, none⟩ = some (.int .i64 (dqPlay y0 l1).top) := bs0.out.cell 0
  have es0_1 : w8.cell? ⟨w2.heap.size, 1, none⟩ = some (.int .i64 (dqPlay y0 l1).bottom) := bs0.out.cell 1
  have es0_2 : w8.cell? ⟨w2.heap.size, 2, none⟩ = some (.int .i64 (dqPlay y0 l1).next) := bs0.out.cell 2
  have es0_3 : w8.cell? ⟨w2.heap.size, 3, none⟩ = some (.slice B2_0_0 m2_0_0 d2_0_0) := bs0.out.cell 3
  have es0_4 : w8.cell? ⟨w2.heap.size, 4, none⟩ = some (.int .i64 (dqPlay y0 l1).own.phase) := bs0.out.cell 4
  have es0_5 : w8.cell? ⟨w2.heap.size, 5, none⟩ = some (.int .i64 (dqPlay y0 l1).own.b) := bs0.out.cell 5
  have es0_6 : w8.cell? ⟨w2.heap.size, 6, none⟩ = some (.int .i64 (dqPlay y0 l1).own.t) := bs0.out.cell 6
  have es0_7 : w8.cell? ⟨w2.heap.size, 7, none⟩ = some (.slice B2_0_1 m2_0_1 d2_0_1) := bs0.out.cell 7
  have es0_8 : w8.cell? ⟨w2.heap.size, 8, none⟩ = some (.slice B2_0_2 m2_0_2 d2_0_2) := bs0.out.cell 8
  go_wp2_with fail
  refine (eqDeque_same _ _ _ _ _ _ _ _ _ _ _ _ _ _ _ _ _ _ _ _ _ _ _ _ _ _ (ownSl o4_0_0) (by omega) _ (ownSl o4_0_1) (by omega) _ (ownSl o4_0_2) (by omega) _ (ownSl o2_0_0) _ (ownSl o2_0_1) _ (ownSl o2_0_2)).mono ?_
  rintro e w9 ⟨rfl, x9⟩
  clear eg0_0 eg0_1 eg0_2 eg0_3 eg0_4 eg0_5 eg0_6 eg0_7 eg0_8 es0_0 es0_1 es0_2 es0_3 es0_4 es0_5 es0_6 es0_7 es0_8
  replace bs0 := Lib.hid (bs0.out.ext (Ext.tr (Ext.refl' w8) x9))
  replace bg0 := Lib.hid (bg0.out.ext (Ext.tr (Ext.refl' w8) x9))
  have zw9 : w8.heap.size + 0 ≤ w9.heap.size := by have h := x9.size; (try simp at h); omega
  replace o2_0_0 := own_ext o2_0_0 x9
  replace o2_0_1 := own_ext o2_0_1 x9
  replace o2_0_2 := own_ext o2_0_2 x9
  replace o4_0_0 := own_ext o4_0_0 x9
  replace o4_0_1 := own_ext o4_0_1 x9
  replace o4_0_2 := own_ext o4_0_2 x9
  replace xx := xx.tr x9
  replace hs1 := hsO1.ext xx
  clear x9
  have eg0_0 : w9.cell? ⟨w4.heap.size, 0, none⟩ = some (.int .i64 (dqPlay y0 l1).top) := bg0.out.cell 0
  have eg0_1 : w9.cell? ⟨w4.heap.size, 1, none⟩ = some (.int .i64 (dqPlay y0 l1).bottom) := bg0.out.cell 1
  have eg0_2 : w9.cell? ⟨w4.heap.size, 2, none⟩ = some (.int .i64 (dqPlay y0 l1).next) := bg0.out.cell 2
  have eg0_3 : w9.cell? ⟨w4.heap.size, 3, none⟩ = some (.slice B4_0_0 m2_0_0 d4_0_0) := bg0.out.cell 3
  have eg0_4 : w9.cell? ⟨w4.heap.size, 4, none⟩ = some (.int .i64 (dqPlay y0 l1).own.phase) := bg0.out.cell 4
  have eg0_5 : w9.cell? ⟨w4.heap.size, 5, none⟩ = some (.int .i64 (dqPlay y0 l1).own.b) := bg0.out.cell 5
  have eg0_6 : w9.cell? ⟨w4.heap.size, 6, none⟩ = some (.int .i64 (dqPlay y0 l1).own.t) := bg0.out.cell 6
  have eg0_7 : w9.cell? ⟨w4.heap.size, 7, none⟩ = some (.slice B4_0_1 m2_0_1 d4_0_1) := bg0.out.cell 7
  have eg0_8 : w9.cell? ⟨w4.heap.size, 8, none⟩ = some (.slice B4_0_2 m2_0_2 d4_0_2) := bg0.out.cell 8
  go_wp2_with fail
  refine (markDeque_any _ _ _ _ _ _ _ _ _ _ _ _ _ _ _ _ _ _ _ (1) _ (own_base o4_0_0 (Nat.zero_le _)) (own_base o4_0_1 (Nat.zero_le _)) (own_base o4_0_2 (Nat.zero_le _)) ap4_0 (by omega) (by omega)).mono ?_
  rintro e w10 ⟨rfl, o10_0, o10_1, o10_2, cc⟩
  clear eg0_0 eg0_1 eg0_2 eg0_3 eg0_4 eg0_5 eg0_6 eg0_7 eg0_8
  have n_b : Hid (Bx w10 (w2.heap.size) 42 #[.int .i64 (dqPlay y0 l1).top, .int .i64 (dqPlay y0 l1).bottom, .int .i64 (dqPlay y0 l1).next, .slice B2_0_0 m2_0_0 d2_0_0, .int .i64 (dqPlay y0 l1).own.phase, .int .i64 (dqPlay y0 l1).own.b, .int .i64 (dqPlay y0 l1).own.t, .slice B2_0_1 m2_0_1 d2_0_1, .slice B2_0_2 m2_0_2 d2_0_2]) := Bx.chg (bs0.out) cc (fun qq => by (rcases qq with qq | qq | qq <;> first | (have h2 := r4_0_0.out _ qq; skip; omega) | (have h2 := r4_0_1.out _ qq; skip; omega) | (have h2 := r4_0_2.out _ qq; skip; omega)))
  clear bs0
  have bs0 := n_b
  clear n_b
  have n_b : Hid (Bx w10 (w4.heap.size) 42 #[.int .i64 (dqPlay y0 l1).top, .int .i64 (dqPlay y0 l1).bottom, .int .i64 (dqPlay y0 l1).next, .slice B4_0_0 m2_0_0 d4_0_0, .int .i64 (dqPlay y0 l1).own.phase, .int .i64 (dqPlay y0 l1).own.b, .int .i64 (dqPlay y0 l1).own.t, .slice B4_0_1 m2_0_1 d4_0_1, .slice B4_0_2 m2_0_2 d4_0_2]) := Bx.chg (bg0.out) cc (fun qq => by (rcases qq with qq | qq | qq <;> first | (have h2 := r4_0_0.out _ qq; skip; omega) | (have h2 := r4_0_1.out _ qq; skip; omega) | (have h2 := r4_0_2.out _ qq; skip; omega)))
  clear bg0
  have bg0 := n_b
  clear n_b
  have zw10 : w9.heap.size + 0 ≤ w10.heap.size := by have h := cc.size; (try simp at h); omega
  replace o2_0_0 := own_chg o2_0_0 cc (fun g hg qq => by (rcases qq with qq | qq | qq <;> first | (have h2 := r4_0_0.out _ qq; have h1 := r2_0_0.out g hg; omega) | (have h2 := r4_0_1.out _ qq; have h1 := r2_0_0.out g hg; omega) | (have h2 := r4_0_2.out _ qq; have h1 := r2_0_0.out g hg; omega)))
  replace o2_0_1 := own_chg o2_0_1 cc (fun g hg qq => by (rcases qq with qq | qq | qq <;> first | (have h2 := r4_0_0.out _ qq; have h1 := r2_0_1.out g hg; omega) | (have h2 := r4_0_1.out _ qq; have h1 := r2_0_1.out g hg; omega) | (have h2 := r4_0_2.out _ qq; have h1 := r2_0_1.out g hg; omega)))
  replace o2_0_2 := own_chg o2_0_2 cc (fun g hg qq => by (rcases qq with qq | qq | qq <;> first | (have h2 := r4_0_0.out _ qq; have h1 := r2_0_2.out g hg; omega) | (have h2 := r4_0_1.out _ qq; have h1 := r2_0_2.out g hg; omega) | (have h2 := r4_0_2.out _ qq; have h1 := r2_0_2.out g hg; omega)))
  replace xx := cc.ext xx (fun g qq => by (rcases qq with qq | qq | qq <;> first | (have h2 := r4_0_0.out _ qq; skip; omega) | (have h2 := r4_0_1.out _ qq; skip; omega) | (have h2 := r4_0_2.out _ qq; skip; omega)))
  replace hs1 := hsO1.ext xx
  clear cc
  clear o4_0_0
  have r10_0 := r4_0_0
  clear o4_0_1
  have r10_1 := r4_0_1
  clear o4_0_2
  have r10_2 := r4_0_2
  have hq2_0 : (0 : Int) ≤ 1 + (m2_0_0 : Int) + (m2_0_1 : Int) * 4 + (m2_0_2 : Int) * 2 := by omega
  have hq3 : ((1 + (m2_0_0 : Int) + (m2_0_1 : Int) * 4 + (m2_0_2 : Int) * 2) != (1 + (m2_0_0 : Int) + (m2_0_1 : Int) * 4 + (m2_0_2 : Int) * 2)) = false := by simp
  have eg0_0 : w10.cell? ⟨w4.heap.size, 0, none⟩ = some (.int .i64 (dqPlay y0 l1).top) := bg0.out.cell 0
  have eg0_1 : w10.cell? ⟨w4.heap.size, 1, none⟩ = some (.int .i64 (dqPlay y0 l1).bottom) := bg0.out.cell 1
  have eg0_2 : w10.cell? ⟨w4.heap.size, 2, none⟩ = some (.int .i64 (dqPlay y0 l1).next) := bg0.out.cell 2
  have eg0_3 : w10.cell? ⟨w4.heap.size, 3, none⟩ = some (.slice B4_0_0 m2_0_0 d4_0_0) := bg0.out.cell 3
  have eg0_4 : w10.cell? ⟨w4.heap.size, 4, none⟩ = some (.int .i64 (dqPlay y0 l1).own.phase) := bg0.out.cell 4
  have eg0_5 : w10.cell? ⟨w4.heap.size, 5, none⟩ = some (.int .i64 (dqPlay y0 l1).own.b) := bg0.out.cell 5
  have eg0_6 : w10.cell? ⟨w4.heap.size, 6, none⟩ = some (.int .i64 (dqPlay y0 l1).own.t) := bg0.out.cell 6
  have eg0_7 : w10.cell? ⟨w4.heap.size, 7, none⟩ = some (.slice B4_0_1 m2_0_1 d4_0_1) := bg0.out.cell 7
  have eg0_8 : w10.cell? ⟨w4.heap.size, 8, none⟩ = some (.slice B4_0_2 m2_0_2 d4_0_2) := bg0.out.cell 8
  go_wp2_with fail
  refine (heldDeque_any _ _ _ _ _ _ _ _ _ _ _ _ _ _ _ (1) _ _ (ownSl o10_0) _ (ownSl o10_1) _ (ownSl o10_2) (by omega) (by omega)).mono ?_
  rintro e w11 ⟨rfl, x11⟩
  clear eg0_0 eg0_1 eg0_2 eg0_3 eg0_4 eg0_5 eg0_6 eg0_7 eg0_8
  replace bs0 := Lib.hid (bs0.out.ext (Ext.tr (Ext.refl' w10) x11))
  replace bg0 := Lib.hid (bg0.out.ext (Ext.tr (Ext.refl' w10) x11))
  have zw11 : w10.heap.size + 0 ≤ w11.heap.size := by have h := x11.size; (try simp at h); omega
  replace o2_0_0 := own_ext o2_0_0 x11
  replace o2_0_1 := own_ext o2_0_1 x11
  replace o2_0_2 := own_ext o2_0_2 x11
  replace o10_0 := own_ext o10_0 x11
  replace o10_1 := own_ext o10_1 x11
  replace o10_2 := own_ext o10_2 x11
  replace xx := xx.tr x11
  replace hs1 := hsO1.ext xx
  clear x11
  go_wp2_with fail
  refine (toDqActS_any _ _ _ _ _ _ hs1 hN1).mono ?_
  rintro e w12 ⟨B12_0, d12_0, rfl, o12_0, x12⟩
  replace bs0 := Lib.hid (bs0.out.ext (Ext.tr (Ext.refl' w11) x12))
  replace bg0 := Lib.hid (bg0.out.ext (Ext.tr (Ext.refl' w11) x12))
  have zw12 : w11.heap.size + 0 ≤ w12.heap.size := by have h := x12.size; (try simp at h); omega
  replace o2_0_0 := own_ext o2_0_0 x12
  replace o2_0_1 := own_ext o2_0_1 x12
  replace o2_0_2 := own_ext o2_0_2 x12
  replace o10_0 := own_ext o10_0 x12
  replace o10_1 := own_ext o10_1 x12
  replace o10_2 := own_ext o10_2 x12
  replace xx := xx.tr x12
  replace hs1 := hsO1.ext xx
  clear x12
  have r12_0 : Hid (∀ g, (Value.slice B12_0 n1 d12_0).ownBlock = some g → w11.heap.size + 0 ≤ g ∧ g < w12.heap.size) := fun g hg => by have h := o12_0.lt g hg; (try simp only [World.heap_alloc_size] at h); omega
  go_wp2_with fail
  refine (impl_DqPlayR _ _ _ _ _ _ _ (ownSl o12_0) hN1).mono ?_
  rintro e w13 ⟨B13_0_0, m13_0_0, d13_0_0, B13_0_1, m13_0_1, d13_0_1, B13_0_2, m13_0_2, d13_0_2, rfl, o13_0_0, o13_0_1, o13_0_2, ap13_0, x13⟩
  replace bs0 := Lib.hid (bs0.out.ext (Ext.tr (Ext.refl' w12) x13))
  replace bg0 := Lib.hid (bg0.out.ext (Ext.tr (Ext.refl' w12) x13))
  have zw13 : w12.heap.size + 0 ≤ w13.heap.size := by have h := x13.size; (try simp at h); omega
  replace o2_0_0 := own_ext o2_0_0 x13
  replace o2_0_1 := own_ext o2_0_1 x13
  replace o2_0_2 := own_ext o2_0_2 x13
  replace o10_0 := own_ext o10_0 x13
  replace o10_1 := own_ext o10_1 x13
  replace o10_2 := own_ext o10_2 x13
  replace o12_0 := own_ext o12_0 x13
  replace xx := xx.tr x13
  replace hs1 := hsO1.ext xx
  clear x13
  have r13_0_0 : Hid (∀ g, (Value.slice B13_0_0 m13_0_0 d13_0_0).ownBlock = some g → w12.heap.size + 0 ≤ g ∧ g < w13.heap.size) := fun g hg => by have h := o13_0_0.lt g hg; (try simp only [World.heap_alloc_size] at h); omega
  have r13_0_1 : Hid (∀ g, (Value.slice B13_0_1 m13_0_1 d13_0_1).ownBlock = some g → w12.heap.size + 0 ≤ g ∧ g < w13.heap.size) := fun g hg => by have h := o13_0_1.lt g hg; (try simp only [World.heap_alloc_size] at h); omega
  have r13_0_2 : Hid (∀ g, (Value.slice B13_0_2 m13_0_2 d13_0_2).ownBlock = some g → w12.heap.size + 0 ≤ g ∧ g < w13.heap.size) := fun g hg => by have h := o13_0_2.lt g hg; (try simp only [World.heap_alloc_size] at h); omega
  clear o12_0
  obtain rfl : m2_0_0 = m13_0_0 := by have h1 := o2_0_0.1; have h2 := o13_0_0.1; omega
  obtain rfl : m2_0_1 = m13_0_1 := by have h1 := o2_0_1.1; have h2 := o13_0_1.1; omega
  obtain rfl : m2_0_2 = m13_0_2 := by have h1 := o2_0_2.1; have h2 := o13_0_2.1; omega
  have ls0 : w2.heap.size < w13.heap.size := bs0.out.lt
  have es0_0 : w13.cell? ⟨w2.heap.size, 0, none⟩ = some (.int .i64 (dqPlay y0 l1).top) := bs0.out.cell 0
  have es0_1 : w13.cell? ⟨w2.heap.size, 1, none⟩ = some (.int .i64 (dqPlay y0 l1).bottom) := bs0.out.cell 1
  have es0_2 : w13.cell? ⟨w2.heap.size, 2, none⟩ = some (.int .i64 (dqPlay y0 l1).next) := bs0.out.cell 2
  have es0_3 : w13.cell? ⟨w2.heap.size, 3, none⟩ = some (.slice B2_0_0 m2_0_0 d2_0_0) := bs0.out.cell 3
  have es0_4 : w13.cell? ⟨w2.heap.size, 4, none⟩ = some (.int .i64 (dqPlay y0 l1).own.phase) := bs0.out.cell 4
  have es0_5 : w13.cell? ⟨w2.heap.size, 5, none⟩ = some (.int .i64 (dqPlay y0 l1).own.b) := bs0.out.cell 5
  have es0_6 : w13.cell? ⟨w2.heap.size, 6, none⟩ = some (.int .i64 (dqPlay y0 l1).own.t) := bs0.out.cell 6
  have es0_7 : w13.cell? ⟨w2.heap.size, 7, none⟩ = some (.slice B2_0_1 m2_0_1 d2_0_1) := bs0.out.cell 7
  have es0_8 : w13.cell? ⟨w2.heap.size, 8, none⟩ = some (.slice B2_0_2 m2_0_2 d2_0_2) := bs0.out.cell 8
  go_wp2_with fail
  refine (eqDeque_same _ _ _ _ _ _ _ _ _ _ _ _ _ _ _ _ _ _ _ _ _ _ _ _ _ _ (ownSl (own_ext o13_0_0 ((Ext.refl' w13).al _))) (by omega) _ (ownSl (own_ext o13_0_1 ((Ext.refl' w13).al _))) (by omega) _ (ownSl (own_ext o13_0_2 ((Ext.refl' w13).al _))) (by omega) _ (ownSl (own_ext o2_0_0 ((Ext.refl' w13).al _))) _ (ownSl (own_ext o2_0_1 ((Ext.refl' w13).al _))) _ (ownSl (own_ext o2_0_2 ((Ext.refl' w13).al _)))).mono ?_
  rintro e w14 ⟨rfl, x14⟩
  clear ls0 es0_0 es0_1 es0_2 es0_3 es0_4 es0_5 es0_6 es0_7 es0_8
  replace bs0 := Lib.hid (bs0.out.ext (Ext.tr ((Ext.refl' w13).al _) x14))
  replace bg0 := Lib.hid (bg0.out.ext (Ext.tr ((Ext.refl' w13).al _) x14))
  have bh0 : Hid (Bx w14 (w13.heap.size) 42 #[.int .i64 (dqPlay y0 l1).top, .int .i64 (dqPlay y0 l1).bottom, .int .i64 (dqPlay y0 l1).next, .slice B13_0_0 m2_0_0 d13_0_0, .int .i64 (dqPlay y0 l1).own.phase, .int .i64 (dqPlay y0 l1).own.b, .int .i64 (dqPlay y0 l1).own.t, .slice B13_0_1 m2_0_1 d13_0_1, .slice B13_0_2 m2_0_2 d13_0_2]) := Bx.ext (Bx.new' _ _ _ rfl) x14
  have zw14 : w13.heap.size + 1 ≤ w14.heap.size := by have h := x14.size; (try simp at h); omega
  replace x14 := Ext.tr ((Ext.refl' w13).al _) x14
  replace o2_0_0 := own_ext o2_0_0 x14
  replace o2_0_1 := own_ext o2_0_1 x14
  replace o2_0_2 := own_ext o2_0_2 x14
  replace o10_0 := own_ext o10_0 x14
  replace o10_1 := own_ext o10_1 x14
  replace o10_2 := own_ext o10_2 x14
  replace o13_0_0 := own_ext o13_0_0 x14
  replace o13_0_1 := own_ext o13_0_1 x14
  replace o13_0_2 := own_ext o13_0_2 x14
  replace xx := xx.tr x14
  replace hs1 := hsO1.ext xx
  clear x14
  have eg0_0 : w14.cell? ⟨w4.heap.size, 0, none⟩ = some (.int .i64 (dqPlay y0 l1).top) := bg0.out.cell 0
  have eg0_1 : w14.cell? ⟨w4.heap.size, 1, none⟩ = some (.int .i64 (dqPlay y0 l1).bottom) := bg0.out.cell 1
  have eg0_2 : w14.cell? ⟨w4.heap.size, 2, none⟩ = some (.int .i64 (dqPlay y0 l1).next) := bg0.out.cell 2
  have eg0_3 : w14.cell? ⟨w4.heap.size, 3, none⟩ = some (.slice B4_0_0 m2_0_0 d4_0_0) := bg0.out.cell 3
  have eg0_4 : w14.cell? ⟨w4.heap.size, 4, none⟩ = some (.int .i64 (dqPlay y0 l1).own.phase) := bg0.out.cell 4
  have eg0_5 : w14.cell? ⟨w4.heap.size, 5, none⟩ = some (.int .i64 (dqPlay y0 l1).own.b) := bg0.out.cell 5
  have eg0_6 : w14.cell? ⟨w4.heap.size, 6, none⟩ = some (.int .i64 (dqPlay y0 l1).own.t) := bg0.out.cell 6
  have eg0_7 : w14.cell? ⟨w4.heap.size, 7, none⟩ = some (.slice B4_0_1 m2_0_1 d4_0_1) := bg0.out.cell 7
  have eg0_8 : w14.cell? ⟨w4.heap.size, 8, none⟩ = some (.slice B4_0_2 m2_0_2 d4_0_2) := bg0.out.cell 8
  go_wp2_with fail
  refine (heldDeque_any _ _ _ _ _ _ _ _ _ _ _ _ _ _ _ (1) _ _ (ownSl o10_0) _ (ownSl o10_1) _ (ownSl o10_2) (by omega) (by omega)).mono ?_
  rintro e w15 ⟨rfl, x15⟩
  clear eg0_0 eg0_1 eg0_2 eg0_3 eg0_4 eg0_5 eg0_6 eg0_7 eg0_8
  replace bs0 := Lib.hid (bs0.out.ext (Ext.tr (Ext.refl' w14) x15))
  replace bg0 := Lib.hid (bg0.out.ext (Ext.tr (Ext.refl' w14) x15))
  replace bh0 := Lib.hid (bh0.out.ext (Ext.tr (Ext.refl' w14) x15))
  have zw15 : w14.heap.size + 0 ≤ w15.heap.size := by have h := x15.size; (try simp at h); omega
  replace o2_0_0 := own_ext o2_0_0 x15
  replace o2_0_1 := own_ext o2_0_1 x15
  replace o2_0_2 := own_ext o2_0_2 x15
  replace o10_0 := own_ext o10_0 x15
  replace o10_1 := own_ext o10_1 x15
  replace o10_2 := own_ext o10_2 x15
  replace o13_0_0 := own_ext o13_0_0 x15
  replace o13_0_1 := own_ext o13_0_1 x15
  replace o13_0_2 := own_ext o13_0_2 x15
  replace xx := xx.tr x15
  replace hs1 := hsO1.ext xx
  clear x15
  go_wp2
  go_ret
  exact ⟨rfl, xx⟩

end Go.Proofs.Ytkkcgpoakhllkaa
