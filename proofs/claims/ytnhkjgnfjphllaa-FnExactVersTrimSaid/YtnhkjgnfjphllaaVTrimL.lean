/- The contract of laws.FnExactVersTrim. No condition but lengths. -/
import Derived.Test.YtnhkjgnfjphllaaVTrimS
import Derived.Test.YtnhkjgnfjphllaaVersNew
namespace Go.Proofs.Ytnhkjgnfjphllaa
open Go.RowKit Go.Deep
set_option linter.unusedSimpArgs false
set_option linter.unusedVariables false

theorem trimB_le (b : List Int) (f : Int) (l : List Ver) (n : Int) : (trimB b f l n).length ≤ b.length ∨ (trimB b f l n).length ≤ 8 := by
  unfold trimB
  split
  · exact .inr (versState_le _ _ _ _)
  · exact .inl (Nat.le_refl _)
theorem trimL_le (b : List Int) (f : Int) (l : List Ver) (n : Int) : (trimL b f l n).length ≤ l.length := by
  unfold trimL
  split
  · exact keep_le _ _
  · exact Nat.le_refl _

theorem spec_VersTrim (n : Int) (f1 : Int) (A0 : Option Addr) (n0 c0 : Nat) (l0 : List Int) (A1 : Option Addr) (n1 c1 : Nat) (l1 : List Ver) (w : World) (S0 : Nat → Prop) (hs0 : Sl w S0 1 A0 n0 (ints l0)) (hm0 : n0 ≤ 1048576) (S1 : Nat → Prop) (hs1 : Sl w S1 3 A1 n1 (l1.flatMap Ver.cells)) (hm1 : n1 ≤ 1048576) :
    Calls Try.prog 30 #[.agg #[.slice A0 n0 c0, .int .i64 f1, .slice A1 n1 c1], .int .i64 n] w fun e w' => ∃ B0 m0 d0 B1 m1 d1, e = .returned (.tuple #[.agg #[.slice B0 m0 d0, .int .i64 (trimF l0 f1 l1 n), .slice B1 m1 d1], .bool (trimOk l0 f1 l1 n)]) ∧
      w'.ownsRow w.heap.size 3 1 (.slice B0 m0 d0) m0 (ints (trimB l0 f1 l1 n)) ∧ w'.ownsRow w.heap.size 73 3 (.slice B1 m1 d1) m1 ((trimL l0 f1 l1 n).flatMap Ver.cells) ∧ Hid (Apart (.slice B0 m0 d0) (.slice B1 m1 d1)) ∧ Ext w w' := by
  refine (spec_VersTrim_m n f1 A0 n0 c0 l0 A1 n1 c1 l1 w S0 hs0 hm0 S1 hs1 hm1).mono ?_
  rintro e w' ⟨B0, m0, d0, B1, m1, d1, rfl, M⟩
  exact ⟨B0, m0, d0, B1, m1, d1, rfl, M.row_at 0 rfl, M.row_at 1 rfl, fun g a b => M.far_of (i := 0) (j := 1) rfl rfl (by omega) g a b, M.ext⟩
theorem impl_VersTrim (n : Int) (f1 : Int) (A0 : Option Addr) (n0 c0 : Nat) (l0 : List Int) (A1 : Option Addr) (n1 c1 : Nat) (l1 : List Ver) (w : World) (S0 : Nat → Prop) (hs0 : Sl w S0 1 A0 n0 (ints l0)) (hm0 : n0 ≤ 1048576) (S1 : Nat → Prop) (hs1 : Sl w S1 3 A1 n1 (l1.flatMap Ver.cells)) (hm1 : n1 ≤ 1048576) :
    Calls Try.prog 31 #[.agg #[.slice A0 n0 c0, .int .i64 f1, .slice A1 n1 c1], .int .i64 n] w fun e w' => ∃ B0 m0 d0 B1 m1 d1, e = .returned (.tuple #[.agg #[.slice B0 m0 d0, .int .i64 (trimF l0 f1 l1 n), .slice B1 m1 d1], .bool (trimOk l0 f1 l1 n)]) ∧
      w'.ownsRow w.heap.size 3 1 (.slice B0 m0 d0) m0 (ints (trimB l0 f1 l1 n)) ∧ w'.ownsRow w.heap.size 73 3 (.slice B1 m1 d1) m1 ((trimL l0 f1 l1 n).flatMap Ver.cells) ∧ Hid (Apart (.slice B0 m0 d0) (.slice B1 m1 d1)) ∧ Ext w w' := by
  refine (impl_VersTrim_m n f1 A0 n0 c0 l0 A1 n1 c1 l1 w S0 hs0 hm0 S1 hs1 hm1).mono ?_
  rintro e w' ⟨B0, m0, d0, B1, m1, d1, rfl, M⟩
  exact ⟨B0, m0, d0, B1, m1, d1, rfl, M.row_at 0 rfl, M.row_at 1 rfl, fun g a b => M.far_of (i := 0) (j := 1) rfl rfl (by omega) g a b, M.ext⟩

set_option maxHeartbeats 8000000 in
theorem law_VersTrim (f0_1 : Int) (A0_0 : Option Addr) (n0_0 c0_0 : Nat) (l0_0 : List Int) (A0_1 : Option Addr) (n0_1 c0_1 : Nat) (l0_1 : List Ver) (y1 : Int) (w : World) (hs0_0 : Sl w (fun _ => True) 1 A0_0 n0_0 (ints l0_0)) (hm0_0 : n0_0 ≤ 9223372036854775807) (hs0_1 : Sl w (fun _ => True) 3 A0_1 n0_1 (l0_1.flatMap Ver.cells)) (hm0_1 : n0_1 ≤ 9223372036854775807) :
    Calls Try.prog 8 #[.agg #[.slice A0_0 n0_0 c0_0, .int .i64 f0_1, .slice A0_1 n0_1 c0_1], .int .i64 y1] w fun e w' => e = .returned (.bool true) ∧ Ext w w' := by
  have hsO0_0 := hs0_0
  have hsO0_1 := hs0_1
  by_cases hz0 : (n0_0 : Int) + (n0_1 : Int) ≤ (1048576 : Int)
  rotate_left
  · go_enter Try.func8, Try.ntmps8
    go_wp2_with fail
    refine (szVersions_no _ _ _ _ _ _ _ ((1048576 : Int)) _ hm0_0 hm0_1 (by omega) (by omega) (by omega)).mono ?_
    rintro e w1 ⟨rfl, xw1⟩
    have ba0 : Hid (Bx w1 (w.heap.size) 36 #[.slice A0_0 n0_0 c0_0, .int .i64 f0_1, .slice A0_1 n0_1 c0_1]) := Bx.ext (Bx.new' _ _ _ rfl) xw1
    have zw1 : w.heap.size + 1 ≤ w1.heap.size := by have h := xw1.size; (try simp at h); omega
    replace xw1 := Ext.tr ((Ext.refl' w).al _) xw1
    have xx := xw1
    replace hs0_0 := hsO0_0.ext xx
    replace hs0_1 := hsO0_1.ext xx
    clear xw1
    go_wp2
    go_ret
    exact ⟨rfl, xx⟩
  have hN0_0 : n0_0 ≤ 1048576 := by omega
  have hN0_1 : n0_1 ≤ 1048576 := by omega
  go_enter Try.func8, Try.ntmps8
  go_wp2_with fail
  refine (szVersions_yes _ _ _ _ _ _ _ ((1048576 : Int)) _ hm0_0 hm0_1 (by omega) (by omega) (by omega)).mono ?_
  rintro e w1 ⟨rfl, xw1⟩
  have ba0 : Hid (Bx w1 (w.heap.size) 36 #[.slice A0_0 n0_0 c0_0, .int .i64 f0_1, .slice A0_1 n0_1 c0_1]) := Bx.ext (Bx.new' _ _ _ rfl) xw1
  have zw1 : w.heap.size + 1 ≤ w1.heap.size := by have h := xw1.size; (try simp at h); omega
  replace xw1 := Ext.tr ((Ext.refl' w).al _) xw1
  have xx := xw1
  replace hs0_0 := hsO0_0.ext xx
  replace hs0_1 := hsO0_1.ext xx
  clear xw1
  have ea0_0 : w1.cell? ⟨w.heap.size, 0, none⟩ = some (.slice A0_0 n0_0 c0_0) := ba0.out.cell 0
  have ea0_1 : w1.cell? ⟨w.heap.size, 1, none⟩ = some (.int .i64 f0_1) := ba0.out.cell 1
  have ea0_2 : w1.cell? ⟨w.heap.size, 2, none⟩ = some (.slice A0_1 n0_1 c0_1) := ba0.out.cell 2
  go_wp2_with fail
  refine (toVersions_any _ _ _ _ _ _ _ _ _ _ _ hs0_0 hN0_0 _ hs0_1 hN0_1).mono ?_
  rintro e w2 ⟨B2_0, d2_0, B2_1, d2_1, rfl, o2_0, o2_1, ap2, x2⟩
  clear ea0_0 ea0_1 ea0_2
  replace ba0 := Lib.hid (ba0.out.ext (Ext.tr (Ext.refl' w1) x2))
  have zw2 : w1.heap.size + 0 ≤ w2.heap.size := by have h := x2.size; (try simp at h); omega
  replace xx := xx.tr x2
  replace hs0_0 := hsO0_0.ext xx
  replace hs0_1 := hsO0_1.ext xx
  clear x2
  have r2_0 : Hid (∀ g, (Value.slice B2_0 n0_0 d2_0).ownBlock = some g → w1.heap.size + 0 ≤ g ∧ g < w2.heap.size) := fun g hg => by have h := o2_0.lt g hg; (try simp only [World.heap_alloc_size] at h); omega
  have r2_1 : Hid (∀ g, (Value.slice B2_1 n0_1 d2_1).ownBlock = some g → w1.heap.size + 0 ≤ g ∧ g < w2.heap.size) := fun g hg => by have h := o2_1.lt g hg; (try simp only [World.heap_alloc_size] at h); omega
  go_wp2_with fail
  refine (spec_VersTrim _ _ _ _ _ _ _ _ _ _ _ _ (ownSl o2_0) hN0_0 _ (ownSl o2_1) hN0_1).mono ?_
  rintro e w3 ⟨B3_0_0, m3_0_0, d3_0_0, B3_0_1, m3_0_1, d3_0_1, rfl, o3_0_0, o3_0_1, ap3_0, x3⟩
  replace ba0 := Lib.hid (ba0.out.ext (Ext.tr (Ext.refl' w2) x3))
  have zw3 : w2.heap.size + 0 ≤ w3.heap.size := by have h := x3.size; (try simp at h); omega
  replace o2_0 := own_ext o2_0 x3
  replace o2_1 := own_ext o2_1 x3
  replace xx := xx.tr x3
  replace hs0_0 := hsO0_0.ext xx
  replace hs0_1 := hsO0_1.ext xx
  clear x3
  have r3_0_0 : Hid (∀ g, (Value.slice B3_0_0 m3_0_0 d3_0_0).ownBlock = some g → w2.heap.size + 0 ≤ g ∧ g < w3.heap.size) := fun g hg => by have h := o3_0_0.lt g hg; (try simp only [World.heap_alloc_size] at h); omega
  have r3_0_1 : Hid (∀ g, (Value.slice B3_0_1 m3_0_1 d3_0_1).ownBlock = some g → w2.heap.size + 0 ≤ g ∧ g < w3.heap.size) := fun g hg => by have h := o3_0_1.lt g hg; (try simp only [World.heap_alloc_size] at h); omega
  clear o2_0 o2_1
  have bd0_0 : m3_0_0 ≤ 1048576 := by have h1 := own_len o3_0_0; have h2 := trimB_le l0_0 f0_1 l0_1 y1; have h3 := hsO0_0.len; rw [ints_length] at h1; omega
  have bd0_1 : m3_0_1 ≤ 1048576 := by have h1 := o3_0_1.1; have h2 := trimL_le l0_0 f0_1 l0_1 y1; have h3 := hsO0_1.flen Ver.cells_length (by omega); rw [flat_length Ver.cells_length] at h1; omega
  have la0 : w.heap.size < w3.heap.size := ba0.out.lt
  have ea0_0 : w3.cell? ⟨w.heap.size, 0, none⟩ = some (.slice A0_0 n0_0 c0_0) := ba0.out.cell 0
  have ea0_1 : w3.cell? ⟨w.heap.size, 1, none⟩ = some (.int .i64 f0_1) := ba0.out.cell 1
  have ea0_2 : w3.cell? ⟨w.heap.size, 2, none⟩ = some (.slice A0_1 n0_1 c0_1) := ba0.out.cell 2
  go_wp2_with fail
  refine (toVersions_any _ _ _ _ _ _ _ _ _ _ _ (hs0_0.ext ((Ext.refl' w3).al _)) hN0_0 _ (hs0_1.ext ((Ext.refl' w3).al _)) hN0_1).mono ?_
  rintro e w4 ⟨B4_0, d4_0, B4_1, d4_1, rfl, o4_0, o4_1, ap4, x4⟩
  clear la0 ea0_0 ea0_1 ea0_2
  replace ba0 := Lib.hid (ba0.out.ext (Ext.tr ((Ext.refl' w3).al _) x4))
  have bs0 : Hid (Bx w4 (w3.heap.size) 25 #[.slice B3_0_0 m3_0_0 d3_0_0, .int .i64 (trimF l0_0 f0_1 l0_1 y1), .slice B3_0_1 m3_0_1 d3_0_1]) := Bx.ext (Bx.new' _ _ _ rfl) x4
  have zw4 : w3.heap.size + 1 ≤ w4.heap.size := by have h := x4.size; (try simp at h); omega
  replace x4 := Ext.tr ((Ext.refl' w3).al _) x4
  replace o3_0_0 := own_ext o3_0_0 x4
  replace o3_0_1 := own_ext o3_0_1 x4
  replace xx := xx.tr x4
  replace hs0_0 := hsO0_0.ext xx
  replace hs0_1 := hsO0_1.ext xx
  clear x4
  have r4_0 : Hid (∀ g, (Value.slice B4_0 n0_0 d4_0).ownBlock = some g → w3.heap.size + 1 ≤ g ∧ g < w4.heap.size) := fun g hg => by have h := o4_0.lt g hg; (try simp only [World.heap_alloc_size] at h); omega
  have r4_1 : Hid (∀ g, (Value.slice B4_1 n0_1 d4_1).ownBlock = some g → w3.heap.size + 1 ≤ g ∧ g < w4.heap.size) := fun g hg => by have h := o4_1.lt g hg; (try simp only [World.heap_alloc_size] at h); omega
  go_wp2_with fail
  refine (impl_VersTrim _ _ _ _ _ _ _ _ _ _ _ _ (ownSl (own_ext o4_0 ((Ext.refl' w4).al _))) hN0_0 _ (ownSl (own_ext o4_1 ((Ext.refl' w4).al _))) hN0_1).mono ?_
  rintro e w5 ⟨B5_0_0, m5_0_0, d5_0_0, B5_0_1, m5_0_1, d5_0_1, rfl, o5_0_0, o5_0_1, ap5_0, x5⟩
  replace ba0 := Lib.hid (ba0.out.ext (Ext.tr ((Ext.refl' w4).al _) x5))
  replace bs0 := Lib.hid (bs0.out.ext (Ext.tr ((Ext.refl' w4).al _) x5))
  have bx0 : Hid (Bx w5 (w4.heap.size) 25 #[.slice B4_0 n0_0 d4_0, .int .i64 f0_1, .slice B4_1 n0_1 d4_1]) := Bx.ext (Bx.new' _ _ _ rfl) x5
  have zw5 : w4.heap.size + 1 ≤ w5.heap.size := by have h := x5.size; (try simp at h); omega
  replace x5 := Ext.tr ((Ext.refl' w4).al _) x5
  replace o3_0_0 := own_ext o3_0_0 x5
  replace o3_0_1 := own_ext o3_0_1 x5
  replace o4_0 := own_ext o4_0 x5
  replace o4_1 := own_ext o4_1 x5
  replace xx := xx.tr x5
  replace hs0_0 := hsO0_0.ext xx
  replace hs0_1 := hsO0_1.ext xx
  clear x5
  have r5_0_0 : Hid (∀ g, (Value.slice B5_0_0 m5_0_0 d5_0_0).ownBlock = some g → w4.heap.size + 1 ≤ g ∧ g < w5.heap.size) := fun g hg => by have h := o5_0_0.lt g hg; (try simp only [World.heap_alloc_size] at h); omega
  have r5_0_1 : Hid (∀ g, (Value.slice B5_0_1 m5_0_1 d5_0_1).ownBlock = some g → w4.heap.size + 1 ≤ g ∧ g < w5.heap.size) := fun g hg => by have h := o5_0_1.lt g hg; (try simp only [World.heap_alloc_size] at h); omega
  obtain rfl : m3_0_0 = m5_0_0 := by have h1 := o3_0_0.1; have h2 := o5_0_0.1; omega
  obtain rfl : m3_0_1 = m5_0_1 := by have h1 := o3_0_1.1; have h2 := o5_0_1.1; omega
  have ls0 : w3.heap.size < w5.heap.size := bs0.out.lt
  have es0_0 : w5.cell? ⟨w3.heap.size, 0, none⟩ = some (.slice B3_0_0 m3_0_0 d3_0_0) := bs0.out.cell 0
  have es0_1 : w5.cell? ⟨w3.heap.size, 1, none⟩ = some (.int .i64 (trimF l0_0 f0_1 l0_1 y1)) := bs0.out.cell 1
  have es0_2 : w5.cell? ⟨w3.heap.size, 2, none⟩ = some (.slice B3_0_1 m3_0_1 d3_0_1) := bs0.out.cell 2
  go_wp2_with fail
  refine (eqVersions_same _ _ _ _ _ _ _ _ _ _ _ _ _ _ _ (ownSl (own_ext o5_0_0 ((Ext.refl' w5).al _))) (by omega) _ (ownSl (own_ext o5_0_1 ((Ext.refl' w5).al _))) (by omega) _ (ownSl (own_ext o3_0_0 ((Ext.refl' w5).al _))) _ (ownSl (own_ext o3_0_1 ((Ext.refl' w5).al _)))).mono ?_
  rintro e w6 ⟨rfl, x6⟩
  clear ls0 es0_0 es0_1 es0_2
  replace ba0 := Lib.hid (ba0.out.ext (Ext.tr ((Ext.refl' w5).al _) x6))
  replace bs0 := Lib.hid (bs0.out.ext (Ext.tr ((Ext.refl' w5).al _) x6))
  replace bx0 := Lib.hid (bx0.out.ext (Ext.tr ((Ext.refl' w5).al _) x6))
  have bg0 : Hid (Bx w6 (w5.heap.size) 25 #[.slice B5_0_0 m3_0_0 d5_0_0, .int .i64 (trimF l0_0 f0_1 l0_1 y1), .slice B5_0_1 m3_0_1 d5_0_1]) := Bx.ext (Bx.new' _ _ _ rfl) x6
  have zw6 : w5.heap.size + 1 ≤ w6.heap.size := by have h := x6.size; (try simp at h); omega
  replace x6 := Ext.tr ((Ext.refl' w5).al _) x6
  replace o3_0_0 := own_ext o3_0_0 x6
  replace o3_0_1 := own_ext o3_0_1 x6
  replace o4_0 := own_ext o4_0 x6
  replace o4_1 := own_ext o4_1 x6
  replace o5_0_0 := own_ext o5_0_0 x6
  replace o5_0_1 := own_ext o5_0_1 x6
  replace xx := xx.tr x6
  replace hs0_0 := hsO0_0.ext xx
  replace hs0_1 := hsO0_1.ext xx
  clear x6
  have ex0_0 : w6.cell? ⟨w4.heap.size, 0, none⟩ = some (.slice B4_0 n0_0 d4_0) := bx0.out.cell 0
  have ex0_1 : w6.cell? ⟨w4.heap.size, 1, none⟩ = some (.int .i64 f0_1) := bx0.out.cell 1
  have ex0_2 : w6.cell? ⟨w4.heap.size, 2, none⟩ = some (.slice B4_1 n0_1 d4_1) := bx0.out.cell 2
  have ea0_0 : w6.cell? ⟨w.heap.size, 0, none⟩ = some (.slice A0_0 n0_0 c0_0) := ba0.out.cell 0
  have ea0_1 : w6.cell? ⟨w.heap.size, 1, none⟩ = some (.int .i64 f0_1) := ba0.out.cell 1
  have ea0_2 : w6.cell? ⟨w.heap.size, 2, none⟩ = some (.slice A0_1 n0_1 c0_1) := ba0.out.cell 2
  go_wp2_with fail
  go_region_with (first | (go_at_call 21; refine (toVersions_any _ _ _ _ _ _ _ _ _ _ _ (hs0_0.ext ((Ext.refl' w6).dr)) hN0_0 _ (hs0_1.ext ((Ext.refl' w6).dr)) hN0_1).mono ?_; rintro e w7 ⟨B7_0, d7_0, B7_1, d7_1, rfl, o7_0, o7_1, ap7, x7⟩; have bq : Hid (Bx w7 (w4.heap.size) 25 #[.slice B4_0 n0_0 d4_0, .int .i64 f0_1, .slice B4_1 n0_1 d4_1]) := Bx.ext ((bx0.out.ext ((Ext.refl' w6).dr))) x7; have eq_0 : w7.cell? ⟨w4.heap.size, 0, none⟩ = some (.slice B4_0 n0_0 d4_0) := bq.out.cell 0; have eq_1 : w7.cell? ⟨w4.heap.size, 1, none⟩ = some (.int .i64 f0_1) := bq.out.cell 1; have eq_2 : w7.cell? ⟨w4.heap.size, 2, none⟩ = some (.slice B4_1 n0_1 d4_1) := bq.out.cell 2) | (go_at_call 14; refine (eqVersions_same _ _ _ _ _ _ _ _ _ _ _ _ _ _ _ (ownSl (own_ext o4_0 (Ext.tr ((Ext.refl' w6).dr) x7))) (by omega) _ (ownSl (own_ext o4_1 (Ext.tr ((Ext.refl' w6).dr) x7))) (by omega) _ (ownSl o7_0) _ (ownSl o7_1)).mono ?_; rintro e w8 ⟨rfl, x8⟩))
  all_goals
    clear bq eq_0 eq_1 eq_2
    replace x8 := Ext.tr x7 x8
    clear o7_0 o7_1 ap7
    clear ex0_0 ex0_1 ex0_2 ea0_0 ea0_1 ea0_2
    replace ba0 := Lib.hid (ba0.out.ext (Ext.tr ((Ext.refl' w6).dr) x8))
    replace bs0 := Lib.hid (bs0.out.ext (Ext.tr ((Ext.refl' w6).dr) x8))
    replace bx0 := Lib.hid (bx0.out.ext (Ext.tr ((Ext.refl' w6).dr) x8))
    replace bg0 := Lib.hid (bg0.out.ext (Ext.tr ((Ext.refl' w6).dr) x8))
    have zw8 : w6.heap.size + 0 ≤ w8.heap.size := by have h := x8.size; (try simp at h); omega
    replace x8 := Ext.tr ((Ext.refl' w6).dr) x8
    replace o3_0_0 := own_ext o3_0_0 x8
    replace o3_0_1 := own_ext o3_0_1 x8
    replace o4_0 := own_ext o4_0 x8
    replace o4_1 := own_ext o4_1 x8
    replace o5_0_0 := own_ext o5_0_0 x8
    replace o5_0_1 := own_ext o5_0_1 x8
    replace xx := xx.tr x8
    replace hs0_0 := hsO0_0.ext xx
    replace hs0_1 := hsO0_1.ext xx
    clear x8
    have ex0_0 : w8.cell? ⟨w4.heap.size, 0, none⟩ = some (.slice B4_0 n0_0 d4_0) := bx0.out.cell 0
    have ex0_1 : w8.cell? ⟨w4.heap.size, 1, none⟩ = some (.int .i64 f0_1) := bx0.out.cell 1
    have ex0_2 : w8.cell? ⟨w4.heap.size, 2, none⟩ = some (.slice B4_1 n0_1 d4_1) := bx0.out.cell 2
    go_wp2_with fail
    refine (markVersions_any _ _ _ _ _ _ _ _ _ _ (1) _ (own_base o4_0 (Nat.zero_le _)) (own_base o4_1 (Nat.zero_le _)) ap4 (by omega) (by omega)).mono ?_
    rintro e w9 ⟨rfl, o9_0, o9_1, cc⟩
    clear ex0_0 ex0_1 ex0_2
    have n_b : Hid (Bx w9 (w.heap.size) 36 #[.slice A0_0 n0_0 c0_0, .int .i64 f0_1, .slice A0_1 n0_1 c0_1]) := Bx.chg (ba0.out) cc (fun qq => by (rcases qq with qq | qq <;> first | (have h2 := r4_0.out _ qq; skip; omega) | (have h2 := r4_1.out _ qq; skip; omega)))
    clear ba0
    have ba0 := n_b
    clear n_b
    have n_b : Hid (Bx w9 (w3.heap.size) 25 #[.slice B3_0_0 m3_0_0 d3_0_0, .int .i64 (trimF l0_0 f0_1 l0_1 y1), .slice B3_0_1 m3_0_1 d3_0_1]) := Bx.chg (bs0.out) cc (fun qq => by (rcases qq with qq | qq <;> first | (have h2 := r4_0.out _ qq; skip; omega) | (have h2 := r4_1.out _ qq; skip; omega)))
    clear bs0
    have bs0 := n_b
    clear n_b
    have n_b : Hid (Bx w9 (w4.heap.size) 25 #[.slice B4_0 n0_0 d4_0, .int .i64 f0_1, .slice B4_1 n0_1 d4_1]) := Bx.chg (bx0.out) cc (fun qq => by (rcases qq with qq | qq <;> first | (have h2 := r4_0.out _ qq; skip; omega) | (have h2 := r4_1.out _ qq; skip; omega)))
    clear bx0
    have bx0 := n_b
    clear n_b
    have n_b : Hid (Bx w9 (w5.heap.size) 25 #[.slice B5_0_0 m3_0_0 d5_0_0, .int .i64 (trimF l0_0 f0_1 l0_1 y1), .slice B5_0_1 m3_0_1 d5_0_1]) := Bx.chg (bg0.out) cc (fun qq => by (rcases qq with qq | qq <;> first | (have h2 := r4_0.out _ qq; skip; omega) | (have h2 := r4_1.out _ qq; skip; omega)))
    clear bg0
    have bg0 := n_b
    clear n_b
    have zw9 : w8.heap.size + 0 ≤ w9.heap.size := by have h := cc.size; (try simp at h); omega
    replace o3_0_0 := own_chg o3_0_0 cc (fun g hg qq => by (rcases qq with qq | qq <;> first | (have h2 := r4_0.out _ qq; have h1 := r3_0_0.out g hg; omega) | (have h2 := r4_1.out _ qq; have h1 := r3_0_0.out g hg; omega)))
    replace o3_0_1 := own_chg o3_0_1 cc (fun g hg qq => by (rcases qq with qq | qq <;> first | (have h2 := r4_0.out _ qq; have h1 := r3_0_1.out g hg; omega) | (have h2 := r4_1.out _ qq; have h1 := r3_0_1.out g hg; omega)))
    replace o5_0_0 := own_chg o5_0_0 cc (fun g hg qq => by (rcases qq with qq | qq <;> first | (have h2 := r4_0.out _ qq; have h1 := r5_0_0.out g hg; omega) | (have h2 := r4_1.out _ qq; have h1 := r5_0_0.out g hg; omega)))
    replace o5_0_1 := own_chg o5_0_1 cc (fun g hg qq => by (rcases qq with qq | qq <;> first | (have h2 := r4_0.out _ qq; have h1 := r5_0_1.out g hg; omega) | (have h2 := r4_1.out _ qq; have h1 := r5_0_1.out g hg; omega)))
    replace xx := cc.ext xx (fun g qq => by (rcases qq with qq | qq <;> first | (have h2 := r4_0.out _ qq; skip; omega) | (have h2 := r4_1.out _ qq; skip; omega)))
    replace hs0_0 := hsO0_0.ext xx
    replace hs0_1 := hsO0_1.ext xx
    clear cc
    clear o4_0
    have r9_0 := r4_0
    clear o4_1
    have r9_1 := r4_1
    clear o9_0 o9_1
    have hq1 : (0 : Int) ≤ 1 + (n0_0 : Int) + (n0_1 : Int) * 3 := by omega
    have eg0_0 : w9.cell? ⟨w5.heap.size, 0, none⟩ = some (.slice B5_0_0 m3_0_0 d5_0_0) := bg0.out.cell 0
    have eg0_1 : w9.cell? ⟨w5.heap.size, 1, none⟩ = some (.int .i64 (trimF l0_0 f0_1 l0_1 y1)) := bg0.out.cell 1
    have eg0_2 : w9.cell? ⟨w5.heap.size, 2, none⟩ = some (.slice B5_0_1 m3_0_1 d5_0_1) := bg0.out.cell 2
    have es0_0 : w9.cell? ⟨w3.heap.size, 0, none⟩ = some (.slice B3_0_0 m3_0_0 d3_0_0) := bs0.out.cell 0
    have es0_1 : w9.cell? ⟨w3.heap.size, 1, none⟩ = some (.int .i64 (trimF l0_0 f0_1 l0_1 y1)) := bs0.out.cell 1
    have es0_2 : w9.cell? ⟨w3.heap.size, 2, none⟩ = some (.slice B3_0_1 m3_0_1 d3_0_1) := bs0.out.cell 2
    go_wp2_with fail
    refine (eqVersions_same _ _ _ _ _ _ _ _ _ _ _ _ _ _ _ (ownSl o5_0_0) (by omega) _ (ownSl o5_0_1) (by omega) _ (ownSl o3_0_0) _ (ownSl o3_0_1)).mono ?_
    rintro e w10 ⟨rfl, x10⟩
    clear eg0_0 eg0_1 eg0_2 es0_0 es0_1 es0_2
    replace ba0 := Lib.hid (ba0.out.ext (Ext.tr (Ext.refl' w9) x10))
    replace bs0 := Lib.hid (bs0.out.ext (Ext.tr (Ext.refl' w9) x10))
    replace bx0 := Lib.hid (bx0.out.ext (Ext.tr (Ext.refl' w9) x10))
    replace bg0 := Lib.hid (bg0.out.ext (Ext.tr (Ext.refl' w9) x10))
    have zw10 : w9.heap.size + 0 ≤ w10.heap.size := by have h := x10.size; (try simp at h); omega
    replace o3_0_0 := own_ext o3_0_0 x10
    replace o3_0_1 := own_ext o3_0_1 x10
    replace o5_0_0 := own_ext o5_0_0 x10
    replace o5_0_1 := own_ext o5_0_1 x10
    replace xx := xx.tr x10
    replace hs0_0 := hsO0_0.ext xx
    replace hs0_1 := hsO0_1.ext xx
    clear x10
    have eg0_0 : w10.cell? ⟨w5.heap.size, 0, none⟩ = some (.slice B5_0_0 m3_0_0 d5_0_0) := bg0.out.cell 0
    have eg0_1 : w10.cell? ⟨w5.heap.size, 1, none⟩ = some (.int .i64 (trimF l0_0 f0_1 l0_1 y1)) := bg0.out.cell 1
    have eg0_2 : w10.cell? ⟨w5.heap.size, 2, none⟩ = some (.slice B5_0_1 m3_0_1 d5_0_1) := bg0.out.cell 2
    go_wp2_with fail
    refine (markVersions_any _ _ _ _ _ _ _ _ _ _ (1) _ (own_base o5_0_0 (Nat.zero_le _)) (own_base o5_0_1 (Nat.zero_le _)) ap5_0 (by omega) (by omega)).mono ?_
    rintro e w11 ⟨rfl, o11_0, o11_1, cc⟩
    clear eg0_0 eg0_1 eg0_2
    have n_b : Hid (Bx w11 (w.heap.size) 36 #[.slice A0_0 n0_0 c0_0, .int .i64 f0_1, .slice A0_1 n0_1 c0_1]) := Bx.chg (ba0.out) cc (fun qq => by (rcases qq with qq | qq <;> first | (have h2 := r5_0_0.out _ qq; skip; omega) | (have h2 := r5_0_1.out _ qq; skip; omega)))
    clear ba0
    have ba0 := n_b
    clear n_b
    have n_b : Hid (Bx w11 (w3.heap.size) 25 #[.slice B3_0_0 m3_0_0 d3_0_0, .int .i64 (trimF l0_0 f0_1 l0_1 y1), .slice B3_0_1 m3_0_1 d3_0_1]) := Bx.chg (bs0.out) cc (fun qq => by (rcases qq with qq | qq <;> first | (have h2 := r5_0_0.out _ qq; skip; omega) | (have h2 := r5_0_1.out _ qq; skip; omega)))
    clear bs0
    have bs0 := n_b
    clear n_b
    have n_b : Hid (Bx w11 (w4.heap.size) 25 #[.slice B4_0 n0_0 d4_0, .int .i64 f0_1, .slice B4_1 n0_1 d4_1]) := Bx.chg (bx0.out) cc (fun qq => by (rcases qq with qq | qq <;> first | (have h2 := r5_0_0.out _ qq; skip; omega) | (have h2 := r5_0_1.out _ qq; skip; omega)))
    clear bx0
    have bx0 := n_b
    clear n_b
    have n_b : Hid (Bx w11 (w5.heap.size) 25 #[.slice B5_0_0 m3_0_0 d5_0_0, .int .i64 (trimF l0_0 f0_1 l0_1 y1), .slice B5_0_1 m3_0_1 d5_0_1]) := Bx.chg (bg0.out) cc (fun qq => by (rcases qq with qq | qq <;> first | (have h2 := r5_0_0.out _ qq; skip; omega) | (have h2 := r5_0_1.out _ qq; skip; omega)))
    clear bg0
    have bg0 := n_b
    clear n_b
    have zw11 : w10.heap.size + 0 ≤ w11.heap.size := by have h := cc.size; (try simp at h); omega
    replace o3_0_0 := own_chg o3_0_0 cc (fun g hg qq => by (rcases qq with qq | qq <;> first | (have h2 := r5_0_0.out _ qq; have h1 := r3_0_0.out g hg; omega) | (have h2 := r5_0_1.out _ qq; have h1 := r3_0_0.out g hg; omega)))
    replace o3_0_1 := own_chg o3_0_1 cc (fun g hg qq => by (rcases qq with qq | qq <;> first | (have h2 := r5_0_0.out _ qq; have h1 := r3_0_1.out g hg; omega) | (have h2 := r5_0_1.out _ qq; have h1 := r3_0_1.out g hg; omega)))
    replace xx := cc.ext xx (fun g qq => by (rcases qq with qq | qq <;> first | (have h2 := r5_0_0.out _ qq; skip; omega) | (have h2 := r5_0_1.out _ qq; skip; omega)))
    replace hs0_0 := hsO0_0.ext xx
    replace hs0_1 := hsO0_1.ext xx
    clear cc
    clear o5_0_0
    have r11_0 := r5_0_0
    clear o5_0_1
    have r11_1 := r5_0_1
    have hq2_0 : (0 : Int) ≤ 1 + (m3_0_0 : Int) + (m3_0_1 : Int) * 3 := by omega
    have hq3 : ((1 + (m3_0_0 : Int) + (m3_0_1 : Int) * 3) != (1 + (m3_0_0 : Int) + (m3_0_1 : Int) * 3)) = false := by simp
    have eg0_0 : w11.cell? ⟨w5.heap.size, 0, none⟩ = some (.slice B5_0_0 m3_0_0 d5_0_0) := bg0.out.cell 0
    have eg0_1 : w11.cell? ⟨w5.heap.size, 1, none⟩ = some (.int .i64 (trimF l0_0 f0_1 l0_1 y1)) := bg0.out.cell 1
    have eg0_2 : w11.cell? ⟨w5.heap.size, 2, none⟩ = some (.slice B5_0_1 m3_0_1 d5_0_1) := bg0.out.cell 2
    go_wp2_with fail
    refine (heldVersions_any _ _ _ _ _ _ _ (1) _ _ (ownSl o11_0) _ (ownSl o11_1) (by omega) (by omega)).mono ?_
    rintro e w12 ⟨rfl, x12⟩
    clear eg0_0 eg0_1 eg0_2
    replace ba0 := Lib.hid (ba0.out.ext (Ext.tr (Ext.refl' w11) x12))
    replace bs0 := Lib.hid (bs0.out.ext (Ext.tr (Ext.refl' w11) x12))
    replace bx0 := Lib.hid (bx0.out.ext (Ext.tr (Ext.refl' w11) x12))
    replace bg0 := Lib.hid (bg0.out.ext (Ext.tr (Ext.refl' w11) x12))
    have zw12 : w11.heap.size + 0 ≤ w12.heap.size := by have h := x12.size; (try simp at h); omega
    replace o3_0_0 := own_ext o3_0_0 x12
    replace o3_0_1 := own_ext o3_0_1 x12
    replace o11_0 := own_ext o11_0 x12
    replace o11_1 := own_ext o11_1 x12
    replace xx := xx.tr x12
    replace hs0_0 := hsO0_0.ext xx
    replace hs0_1 := hsO0_1.ext xx
    clear x12
    have ea0_0 : w12.cell? ⟨w.heap.size, 0, none⟩ = some (.slice A0_0 n0_0 c0_0) := ba0.out.cell 0
    have ea0_1 : w12.cell? ⟨w.heap.size, 1, none⟩ = some (.int .i64 f0_1) := ba0.out.cell 1
    have ea0_2 : w12.cell? ⟨w.heap.size, 2, none⟩ = some (.slice A0_1 n0_1 c0_1) := ba0.out.cell 2
    go_wp2_with fail
    refine (toVersions_any _ _ _ _ _ _ _ _ _ _ _ hs0_0 hN0_0 _ hs0_1 hN0_1).mono ?_
    rintro e w13 ⟨B13_0, d13_0, B13_1, d13_1, rfl, o13_0, o13_1, ap13, x13⟩
    clear ea0_0 ea0_1 ea0_2
    replace ba0 := Lib.hid (ba0.out.ext (Ext.tr (Ext.refl' w12) x13))
    replace bs0 := Lib.hid (bs0.out.ext (Ext.tr (Ext.refl' w12) x13))
    replace bx0 := Lib.hid (bx0.out.ext (Ext.tr (Ext.refl' w12) x13))
    replace bg0 := Lib.hid (bg0.out.ext (Ext.tr (Ext.refl' w12) x13))
    have zw13 : w12.heap.size + 0 ≤ w13.heap.size := by have h := x13.size; (try simp at h); omega
    replace o3_0_0 := own_ext o3_0_0 x13
    replace o3_0_1 := own_ext o3_0_1 x13
    replace o11_0 := own_ext o11_0 x13
    replace o11_1 := own_ext o11_1 x13
    replace xx := xx.tr x13
    replace hs0_0 := hsO0_0.ext xx
    replace hs0_1 := hsO0_1.ext xx
    clear x13
    have r13_0 : Hid (∀ g, (Value.slice B13_0 n0_0 d13_0).ownBlock = some g → w12.heap.size + 0 ≤ g ∧ g < w13.heap.size) := fun g hg => by have h := o13_0.lt g hg; (try simp only [World.heap_alloc_size] at h); omega
    have r13_1 : Hid (∀ g, (Value.slice B13_1 n0_1 d13_1).ownBlock = some g → w12.heap.size + 0 ≤ g ∧ g < w13.heap.size) := fun g hg => by have h := o13_1.lt g hg; (try simp only [World.heap_alloc_size] at h); omega
    go_wp2_with fail
    refine (impl_VersTrim _ _ _ _ _ _ _ _ _ _ _ _ (ownSl o13_0) hN0_0 _ (ownSl o13_1) hN0_1).mono ?_
    rintro e w14 ⟨B14_0_0, m14_0_0, d14_0_0, B14_0_1, m14_0_1, d14_0_1, rfl, o14_0_0, o14_0_1, ap14_0, x14⟩
    replace ba0 := Lib.hid (ba0.out.ext (Ext.tr (Ext.refl' w13) x14))
    replace bs0 := Lib.hid (bs0.out.ext (Ext.tr (Ext.refl' w13) x14))
    replace bx0 := Lib.hid (bx0.out.ext (Ext.tr (Ext.refl' w13) x14))
    replace bg0 := Lib.hid (bg0.out.ext (Ext.tr (Ext.refl' w13) x14))
    have zw14 : w13.heap.size + 0 ≤ w14.heap.size := by have h := x14.size; (try simp at h); omega
    replace o3_0_0 := own_ext o3_0_0 x14
    replace o3_0_1 := own_ext o3_0_1 x14
    replace o11_0 := own_ext o11_0 x14
    replace o11_1 := own_ext o11_1 x14
    replace o13_0 := own_ext o13_0 x14
    replace o13_1 := own_ext o13_1 x14
    replace xx := xx.tr x14
    replace hs0_0 := hsO0_0.ext xx
    replace hs0_1 := hsO0_1.ext xx
    clear x14
    have r14_0_0 : Hid (∀ g, (Value.slice B14_0_0 m14_0_0 d14_0_0).ownBlock = some g → w13.heap.size + 0 ≤ g ∧ g < w14.heap.size) := fun g hg => by have h := o14_0_0.lt g hg; (try simp only [World.heap_alloc_size] at h); omega
    have r14_0_1 : Hid (∀ g, (Value.slice B14_0_1 m14_0_1 d14_0_1).ownBlock = some g → w13.heap.size + 0 ≤ g ∧ g < w14.heap.size) := fun g hg => by have h := o14_0_1.lt g hg; (try simp only [World.heap_alloc_size] at h); omega
    clear o13_0 o13_1
    obtain rfl : m3_0_0 = m14_0_0 := by have h1 := o3_0_0.1; have h2 := o14_0_0.1; omega
    obtain rfl : m3_0_1 = m14_0_1 := by have h1 := o3_0_1.1; have h2 := o14_0_1.1; omega
    have ls0 : w3.heap.size < w14.heap.size := bs0.out.lt
    have es0_0 : w14.cell? ⟨w3.heap.size, 0, none⟩ = some (.slice B3_0_0 m3_0_0 d3_0_0) := bs0.out.cell 0
    have es0_1 : w14.cell? ⟨w3.heap.size, 1, none⟩ = some (.int .i64 (trimF l0_0 f0_1 l0_1 y1)) := bs0.out.cell 1
    have es0_2 : w14.cell? ⟨w3.heap.size, 2, none⟩ = some (.slice B3_0_1 m3_0_1 d3_0_1) := bs0.out.cell 2
    go_wp2_with fail
    refine (eqVersions_same _ _ _ _ _ _ _ _ _ _ _ _ _ _ _ (ownSl (own_ext o14_0_0 ((Ext.refl' w14).al _))) (by omega) _ (ownSl (own_ext o14_0_1 ((Ext.refl' w14).al _))) (by omega) _ (ownSl (own_ext o3_0_0 ((Ext.refl' w14).al _))) _ (ownSl (own_ext o3_0_1 ((Ext.refl' w14).al _)))).mono ?_
    rintro e w15 ⟨rfl, x15⟩
    clear ls0 es0_0 es0_1 es0_2
    replace ba0 := Lib.hid (ba0.out.ext (Ext.tr ((Ext.refl' w14).al _) x15))
    replace bs0 := Lib.hid (bs0.out.ext (Ext.tr ((Ext.refl' w14).al _) x15))
    replace bx0 := Lib.hid (bx0.out.ext (Ext.tr ((Ext.refl' w14).al _) x15))
    replace bg0 := Lib.hid (bg0.out.ext (Ext.tr ((Ext.refl' w14).al _) x15))
    have bh0 : Hid (Bx w15 (w14.heap.size) 25 #[.slice B14_0_0 m3_0_0 d14_0_0, .int .i64 (trimF l0_0 f0_1 l0_1 y1), .slice B14_0_1 m3_0_1 d14_0_1]) := Bx.ext (Bx.new' _ _ _ rfl) x15
    have zw15 : w14.heap.size + 1 ≤ w15.heap.size := by have h := x15.size; (try simp at h); omega
    replace x15 := Ext.tr ((Ext.refl' w14).al _) x15
    replace o3_0_0 := own_ext o3_0_0 x15
    replace o3_0_1 := own_ext o3_0_1 x15
    replace o11_0 := own_ext o11_0 x15
    replace o11_1 := own_ext o11_1 x15
    replace o14_0_0 := own_ext o14_0_0 x15
    replace o14_0_1 := own_ext o14_0_1 x15
    replace xx := xx.tr x15
    replace hs0_0 := hsO0_0.ext xx
    replace hs0_1 := hsO0_1.ext xx
    clear x15
    have eg0_0 : w15.cell? ⟨w5.heap.size, 0, none⟩ = some (.slice B5_0_0 m3_0_0 d5_0_0) := bg0.out.cell 0
    have eg0_1 : w15.cell? ⟨w5.heap.size, 1, none⟩ = some (.int .i64 (trimF l0_0 f0_1 l0_1 y1)) := bg0.out.cell 1
    have eg0_2 : w15.cell? ⟨w5.heap.size, 2, none⟩ = some (.slice B5_0_1 m3_0_1 d5_0_1) := bg0.out.cell 2
    go_wp2_with fail
    refine (heldVersions_any _ _ _ _ _ _ _ (1) _ _ (ownSl o11_0) _ (ownSl o11_1) (by omega) (by omega)).mono ?_
    rintro e w16 ⟨rfl, x16⟩
    clear eg0_0 eg0_1 eg0_2
    replace ba0 := Lib.hid (ba0.out.ext (Ext.tr (Ext.refl' w15) x16))
    replace bs0 := Lib.hid (bs0.out.ext (Ext.tr (Ext.refl' w15) x16))
    replace bx0 := Lib.hid (bx0.out.ext (Ext.tr (Ext.refl' w15) x16))
    replace bg0 := Lib.hid (bg0.out.ext (Ext.tr (Ext.refl' w15) x16))
    replace bh0 := Lib.hid (bh0.out.ext (Ext.tr (Ext.refl' w15) x16))
    have zw16 : w15.heap.size + 0 ≤ w16.heap.size := by have h := x16.size; (try simp at h); omega
    replace o3_0_0 := own_ext o3_0_0 x16
    replace o3_0_1 := own_ext o3_0_1 x16
    replace o11_0 := own_ext o11_0 x16
    replace o11_1 := own_ext o11_1 x16
    replace o14_0_0 := own_ext o14_0_0 x16
    replace o14_0_1 := own_ext o14_0_1 x16
    replace xx := xx.tr x16
    replace hs0_0 := hsO0_0.ext xx
    replace hs0_1 := hsO0_1.ext xx
    clear x16
    go_wp2
    go_ret
    exact ⟨rfl, xx⟩

end Go.Proofs.Ytnhkjgnfjphllaa
