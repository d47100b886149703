/- The contract of laws.FnExactReadWrote. No condition. -/
import Derived.Test.YtbclkgjjmpipfaaRwS
namespace Go.Proofs.Ytbclkgjjmpipfaa
open Go.RowKit Go.Deep

theorem rwR_le (s : ByteArray) : (rwR s).length ≤ 8 := by
  unfold rwR
  cases h : readW s with
  | none => simp
  | some r =>
    obtain ⟨a, b, rs⟩ := r
    simp only [Option.map_some, Option.getD_some]
    unfold readW at h
    split at h
    · cases h
    · rename_i xs p hv
      split at h
      · rename_i h8
        split at h
        · cases h
        · rename_i rs' q hr
          split at h
          · injection h with h
            injection h with h1 h2
            injection h2 with h2 h3
            subst h3
            rw [rowsAt_len hr]
            omega
          · cases h
      · cases h

set_option maxHeartbeats 8000000 in
theorem law_ReadWrote (s0 : ByteArray) (w : World)  :
    Calls Try.prog 6 #[.string s0] w fun e w' => e = .returned (.bool true) ∧ Ext w w' := by
  by_cases hn0 : (s0.size : Int) ≤ 1048576
  rotate_left
  · go_enter Try.func6, Try.ntmps6
    go_wp2
    go_ret
    exact ⟨rfl, (Ext.refl' w)⟩
  have hSS0 := Lib.hid (show s0.size ≤ 1099511627776 by omega)
  go_enter Try.func6, Try.ntmps6
  go_wp2_with fail
  refine (spec_ReadWrote _ hSS0.out _ ).mono ?_
  rintro e w1 ⟨B1_0_0, m1_0_0, d1_0_0, rfl, o1_0_0, ap1_0, x1⟩
  have zw1 : w.heap.size + 0 ≤ w1.heap.size := by have h := x1.size; (try simp at h); omega
  have xx := x1
  clear x1
  have r1_0_0 : Hid (∀ g, (Value.slice B1_0_0 m1_0_0 d1_0_0).ownBlock = some g → w.heap.size + 0 ≤ g ∧ g < w1.heap.size) := fun g hg => by have h := o1_0_0.lt g hg; (try simp only [World.heap_alloc_size] at h); omega
  have bd0_0 : m1_0_0 ≤ 1048576 := by have h1 := o1_0_0.1; have h2 := rwR_le s0; rw [flat_length Row.cells_length] at h1; omega
  go_wp2_with fail
  refine (impl_ReadWrote _ hSS0.out _ ).mono ?_
  rintro e w2 ⟨B2_0_0, m2_0_0, d2_0_0, rfl, o2_0_0, ap2_0, x2⟩
  have bs0 : Hid (Bx w2 (w1.heap.size) 33 #[.int .i64 (rwA s0), .int .i64 (rwB s0), .slice B1_0_0 m1_0_0 d1_0_0]) := Bx.ext (Bx.new' _ _ _ rfl) x2
  have zw2 : w1.heap.size + 1 ≤ w2.heap.size := by have h := x2.size; (try simp at h); omega
  replace x2 := Ext.tr ((Ext.refl' w1).al _) x2
  replace o1_0_0 := own_ext o1_0_0 x2
  replace xx := xx.tr x2
  clear x2
  have r2_0_0 : Hid (∀ g, (Value.slice B2_0_0 m2_0_0 d2_0_0).ownBlock = some g → w1.heap.size + 1 ≤ g ∧ g < w2.heap.size) := fun g hg => by have h := o2_0_0.lt g hg; (try simp only [World.heap_alloc_size] at h); omega
  obtain rfl : m1_0_0 = m2_0_0 := by have h1 := o1_0_0.1; have h2 := o2_0_0.1; omega
  have ls0 : w1.heap.size < w2.heap.size := bs0.out.lt
  have es0_0 : w2.cell? ⟨w1.heap.size, 0, none⟩ = some (.int .i64 (rwA s0)) := bs0.out.cell 0
  have es0_1 : w2.cell? ⟨w1.heap.size, 1, none⟩ = some (.int .i64 (rwB s0)) := bs0.out.cell 1
  have es0_2 : w2.cell? ⟨w1.heap.size, 2, none⟩ = some (.slice B1_0_0 m1_0_0 d1_0_0) := bs0.out.cell 2
  go_wp2_with fail
  refine (eqWrote_same _ _ _ _ _ _ _ _ _ _ (ownSl (own_ext o2_0_0 ((Ext.refl' w2).al _))) (by omega) _ (ownSl (own_ext o1_0_0 ((Ext.refl' w2).al _)))).mono ?_
  rintro e w3 ⟨rfl, x3⟩
  clear ls0 es0_0 es0_1 es0_2
  replace bs0 := Lib.hid (bs0.out.ext (Ext.tr ((Ext.refl' w2).al _) x3))
  have bg0 : Hid (Bx w3 (w2.heap.size) 33 #[.int .i64 (rwA s0), .int .i64 (rwB s0), .slice B2_0_0 m1_0_0 d2_0_0]) := Bx.ext (Bx.new' _ _ _ rfl) x3
  have zw3 : w2.heap.size + 1 ≤ w3.heap.size := by have h := x3.size; (try simp at h); omega
  replace x3 := Ext.tr ((Ext.refl' w2).al _) x3
  replace o1_0_0 := own_ext o1_0_0 x3
  replace o2_0_0 := own_ext o2_0_0 x3
  replace xx := xx.tr x3
  clear x3
  have hq1 : (0 : Int) ≤ 1 := by omega
  have eg0_0 : w3.cell? ⟨w2.heap.size, 0, none⟩ = some (.int .i64 (rwA s0)) := bg0.out.cell 0
  have eg0_1 : w3.cell? ⟨w2.heap.size, 1, none⟩ = some (.int .i64 (rwB s0)) := bg0.out.cell 1
  have eg0_2 : w3.cell? ⟨w2.heap.size, 2, none⟩ = some (.slice B2_0_0 m1_0_0 d2_0_0) := bg0.out.cell 2
  go_wp2_with fail
  refine (markWrote_any _ _ _ _ _ _ _ (1) _ (own_base o2_0_0 (Nat.zero_le _)) ap2_0 (by omega) (by omega)).mono ?_
  rintro e w4 ⟨rfl, o4_0, cc⟩
  clear eg0_0 eg0_1 eg0_2
  have n_b : Hid (Bx w4 (w1.heap.size) 33 #[.int .i64 (rwA s0), .int .i64 (rwB s0), .slice B1_0_0 m1_0_0 d1_0_0]) := Bx.chg (bs0.out) cc (fun qq => by have h2 := r2_0_0.out _ qq; skip; omega)
  clear bs0
  have bs0 := n_b
  clear n_b
  have n_b : Hid (Bx w4 (w2.heap.size) 33 #[.int .i64 (rwA s0), .int .i64 (rwB s0), .slice B2_0_0 m1_0_0 d2_0_0]) := Bx.chg (bg0.out) cc (fun qq => by have h2 := r2_0_0.out _ qq; skip; omega)
  clear bg0
  have bg0 := n_b
  clear n_b
  have zw4 : w3.heap.size + 0 ≤ w4.heap.size := by have h := cc.size; (try simp at h); omega
  replace o1_0_0 := own_chg o1_0_0 cc (fun g hg qq => by have h2 := r2_0_0.out _ qq; have h1 := r1_0_0.out g hg; omega)
  replace xx := cc.ext xx (fun g qq => by have h2 := r2_0_0.out _ qq; skip; omega)
  clear cc
  clear o2_0_0
  have r4_0 := r2_0_0
  have hq2_0 : (0 : Int) ≤ 1 + (m1_0_0 : Int) * 2 := by omega
  have hq3 : ((1 + (m1_0_0 : Int) * 2) != (1 + (m1_0_0 : Int) * 2)) = false := by simp
  have eg0_0 : w4.cell? ⟨w2.heap.size, 0, none⟩ = some (.int .i64 (rwA s0)) := bg0.out.cell 0
  have eg0_1 : w4.cell? ⟨w2.heap.size, 1, none⟩ = some (.int .i64 (rwB s0)) := bg0.out.cell 1
  have eg0_2 : w4.cell? ⟨w2.heap.size, 2, none⟩ = some (.slice B2_0_0 m1_0_0 d2_0_0) := bg0.out.cell 2
  go_wp2_with fail
  refine (heldWrote_any _ _ _ _ _ (1) _ _ (ownSl o4_0) (by omega) (by omega)).mono ?_
  rintro e w5 ⟨rfl, x5⟩
  clear eg0_0 eg0_1 eg0_2
  replace bs0 := Lib.hid (bs0.out.ext (Ext.tr (Ext.refl' w4) x5))
  replace bg0 := Lib.hid (bg0.out.ext (Ext.tr (Ext.refl' w4) x5))
  have zw5 : w4.heap.size + 0 ≤ w5.heap.size := by have h := x5.size; (try simp at h); omega
  replace o1_0_0 := own_ext o1_0_0 x5
  replace o4_0 := own_ext o4_0 x5
  replace xx := xx.tr x5
  clear x5
  go_wp2_with fail
  refine (impl_ReadWrote _ hSS0.out _ ).mono ?_
  rintro e w6 ⟨B6_0_0, m6_0_0, d6_0_0, rfl, o6_0_0, ap6_0, x6⟩
  replace bs0 := Lib.hid (bs0.out.ext (Ext.tr (Ext.refl' w5) x6))
  replace bg0 := Lib.hid (bg0.out.ext (Ext.tr (Ext.refl' w5) x6))
  have zw6 : w5.heap.size + 0 ≤ w6.heap.size := by have h := x6.size; (try simp at h); omega
  replace o1_0_0 := own_ext o1_0_0 x6
  replace o4_0 := own_ext o4_0 x6
  replace xx := xx.tr x6
  clear x6
  have r6_0_0 : Hid (∀ g, (Value.slice B6_0_0 m6_0_0 d6_0_0).ownBlock = some g → w5.heap.size + 0 ≤ g ∧ g < w6.heap.size) := fun g hg => by have h := o6_0_0.lt g hg; (try simp only [World.heap_alloc_size] at h); omega
  obtain rfl : m1_0_0 = m6_0_0 := by have h1 := o1_0_0.1; have h2 := o6_0_0.1; omega
  have ls0 : w1.heap.size < w6.heap.size := bs0.out.lt
  have es0_0 : w6.cell? ⟨w1.heap.size, 0, none⟩ = some (.int .i64 (rwA s0)) := bs0.out.cell 0
  have es0_1 : w6.cell? ⟨w1.heap.size, 1, none⟩ = some (.int .i64 (rwB s0)) := bs0.out.cell 1
  have es0_2 : w6.cell? ⟨w1.heap.size, 2, none⟩ = some (.slice B1_0_0 m1_0_0 d1_0_0) := bs0.out.cell 2
  go_wp2_with fail
  refine (eqWrote_same _ _ _ _ _ _ _ _ _ _ (ownSl (own_ext o6_0_0 ((Ext.refl' w6).al _))) (by omega) _ (ownSl (own_ext o1_0_0 ((Ext.refl' w6).al _)))).mono ?_
  rintro e w7 ⟨rfl, x7⟩
  clear ls0 es0_0 es0_1 es0_2
  replace bs0 := Lib.hid (bs0.out.ext (Ext.tr ((Ext.refl' w6).al _) x7))
  replace bg0 := Lib.hid (bg0.out.ext (Ext.tr ((Ext.refl' w6).al _) x7))
  have bh0 : Hid (Bx w7 (w6.heap.size) 33 #[.int .i64 (rwA s0), .int .i64 (rwB s0), .slice B6_0_0 m1_0_0 d6_0_0]) := Bx.ext (Bx.new' _ _ _ rfl) x7
  have zw7 : w6.heap.size + 1 ≤ w7.heap.size := by have h := x7.size; (try simp at h); omega
  replace x7 := Ext.tr ((Ext.refl' w6).al _) x7
  replace o1_0_0 := own_ext o1_0_0 x7
  replace o4_0 := own_ext o4_0 x7
  replace o6_0_0 := own_ext o6_0_0 x7
  replace xx := xx.tr x7
  clear x7
  have eg0_0 : w7.cell? ⟨w2.heap.size, 0, none⟩ = some (.int .i64 (rwA s0)) := bg0.out.cell 0
  have eg0_1 : w7.cell? ⟨w2.heap.size, 1, none⟩ = some (.int .i64 (rwB s0)) := bg0.out.cell 1
  have eg0_2 : w7.cell? ⟨w2.heap.size, 2, none⟩ = some (.slice B2_0_0 m1_0_0 d2_0_0) := bg0.out.cell 2
  go_wp2_with fail
  refine (heldWrote_any _ _ _ _ _ (1) _ _ (ownSl o4_0) (by omega) (by omega)).mono ?_
  rintro e w8 ⟨rfl, x8⟩
  clear eg0_0 eg0_1 eg0_2
  replace bs0 := Lib.hid (bs0.out.ext (Ext.tr (Ext.refl' w7) x8))
  replace bg0 := Lib.hid (bg0.out.ext (Ext.tr (Ext.refl' w7) x8))
  replace bh0 := Lib.hid (bh0.out.ext (Ext.tr (Ext.refl' w7) x8))
  have zw8 : w7.heap.size + 0 ≤ w8.heap.size := by have h := x8.size; (try simp at h); omega
  replace o1_0_0 := own_ext o1_0_0 x8
  replace o4_0 := own_ext o4_0 x8
  replace o6_0_0 := own_ext o6_0_0 x8
  replace xx := xx.tr x8
  clear x8
  go_wp2
  go_ret
  exact ⟨rfl, xx⟩
end Go.Proofs.Ytbclkgjjmpipfaa
