/- The contract of laws.FnExactVersPut. No condition but lengths. -/
import Derived.Test.YtnhkjgnfjphllaaVPutS
import Derived.Test.YtnhkjgnfjphllaaVersNew
namespace Go.Proofs.Ytnhkjgnfjphllaa
open Go.RowKit Go.Deep
set_option linter.unusedSimpArgs false
set_option linter.unusedVariables false

theorem putL_le (b : List Int) (f : Int) (l : List Ver) (st : Int) (ps : List Row) : (putL b f l st ps).length ≤ l.length ∨ (putL b f l st ps).length ≤ 488 := by
  by_cases h : versOk b f l = true ∧ (versLast b f l + 1 ≤ st ∧ st ≤ 1000000) ∧ rowsOk ps = true ∧ l.length + (netR ps).length ≤ 60
  · rw [(put_yes h).2]
    have := merge_len (l := l) (st := st) (ps := ps) (by have := h.2.2.2; omega) 8
    exact .inr this
  · rw [(put_no h).2]
    exact .inl (Nat.le_refl _)

theorem spec_VersPut (f1 : Int) (A0 : Option Addr) (n0 c0 : Nat) (l0 : List Int) (A1 : Option Addr) (n1 c1 : Nat) (l1 : List Ver) (st : Int) (A2 : Option Addr) (n2 c2 : Nat) (l2 : List Row) (w : World) (S0 : Nat → Prop) (hs0 : Sl w S0 1 A0 n0 (ints l0)) (hm0 : n0 ≤ 1048576) (S1 : Nat → Prop) (hs1 : Sl w S1 3 A1 n1 (l1.flatMap Ver.cells)) (hm1 : n1 ≤ 1048576) (S2 : Nat → Prop) (hs2 : Sl w S2 2 A2 n2 (l2.flatMap Row.cells)) (hm2 : n2 ≤ 1048576) :
    Calls Try.prog 33 #[.agg #[.slice A0 n0 c0, .int .i64 f1, .slice A1 n1 c1], .int .i64 st, .slice A2 n2 c2] w fun e w' => ∃ B0 m0 d0 B1 m1 d1, e = .returned (.tuple #[.agg #[.slice B0 m0 d0, .int .i64 f1, .slice B1 m1 d1], .bool (putOk l0 f1 l1 st l2)]) ∧
      w'.ownsRow w.heap.size 3 1 (.slice B0 m0 d0) m0 (ints l0) ∧ w'.ownsRow w.heap.size 73 3 (.slice B1 m1 d1) m1 ((putL l0 f1 l1 st l2).flatMap Ver.cells) ∧ Hid (Apart (.slice B0 m0 d0) (.slice B1 m1 d1)) ∧ Ext w w' := by
  refine (spec_VersPut_m st f1 A0 n0 c0 l0 A1 n1 c1 l1 A2 n2 c2 l2 w S0 hs0 hm0 S1 hs1 hm1 S2 hs2 hm2).mono ?_
  rintro e w' ⟨B0, m0, d0, B1, m1, d1, rfl, M⟩
  exact ⟨B0, m0, d0, B1, m1, d1, rfl, M.row_at 0 rfl, M.row_at 1 rfl, fun g a b => M.far_of (i := 0) (j := 1) rfl rfl (by omega) g a b, M.ext⟩
theorem impl_VersPut (f1 : Int) (A0 : Option Addr) (n0 c0 : Nat) (l0 : List Int) (A1 : Option Addr) (n1 c1 : Nat) (l1 : List Ver) (st : Int) (A2 : Option Addr) (n2 c2 : Nat) (l2 : List Row) (w : World) (S0 : Nat → Prop) (hs0 : Sl w S0 1 A0 n0 (ints l0)) (hm0 : n0 ≤ 1048576) (S1 : Nat → Prop) (hs1 : Sl w S1 3 A1 n1 (l1.flatMap Ver.cells)) (hm1 : n1 ≤ 1048576) (S2 : Nat → Prop) (hs2 : Sl w S2 2 A2 n2 (l2.flatMap Row.cells)) (hm2 : n2 ≤ 1048576) :
    Calls Try.prog 35 #[.agg #[.slice A0 n0 c0, .int .i64 f1, .slice A1 n1 c1], .int .i64 st, .slice A2 n2 c2] w fun e w' => ∃ B0 m0 d0 B1 m1 d1, e = .returned (.tuple #[.agg #[.slice B0 m0 d0, .int .i64 f1, .slice B1 m1 d1], .bool (putOk l0 f1 l1 st l2)]) ∧
      w'.ownsRow w.heap.size 3 1 (.slice B0 m0 d0) m0 (ints l0) ∧ w'.ownsRow w.heap.size 73 3 (.slice B1 m1 d1) m1 ((putL l0 f1 l1 st l2).flatMap Ver.cells) ∧ Hid (Apart (.slice B0 m0 d0) (.slice B1 m1 d1)) ∧ Ext w w' := by
  refine (impl_VersPut_m st f1 A0 n0 c0 l0 A1 n1 c1 l1 A2 n2 c2 l2 w S0 hs0 hm0 S1 hs1 hm1 S2 hs2 hm2).mono ?_
  rintro e w' ⟨B0, m0, d0, B1, m1, d1, rfl, M⟩
  exact ⟨B0, m0, d0, B1, m1, d1, rfl, M.row_at 0 rfl, M.row_at 1 rfl, fun g a b => M.far_of (i := 0) (j := 1) rfl rfl (by omega) g a b, M.ext⟩

set_option maxHeartbeats 8000000 in
theorem law_VersPut (f0_1 : Int) (A0_0 : Option Addr) (n0_0 c0_0 : Nat) (l0_0 : List Int) (A0_1 : Option Addr) (n0_1 c0_1 : Nat) (l0_1 : List Ver) (y1 : Int) (A2 : Option Addr) (n2 c2 : Nat) (l2 : List Row) (w : World) (hs0_0 : Sl w (fun _ => True) 1 A0_0 n0_0 (ints l0_0)) (hm0_0 : n0_0 ≤ 9223372036854775807) (hs0_1 : Sl w (fun _ => True) 3 A0_1 n0_1 (l0_1.flatMap Ver.cells)) (hm0_1 : n0_1 ≤ 9223372036854775807) (hs2 : Sl w (fun _ => True) 2 A2 n2 (l2.flatMap Row.cells)) (hm2 : n2 ≤ 9223372036854775807) :
    Calls Try.prog 9 #[.agg #[.slice A0_0 n0_0 c0_0, .int .i64 f0_1, .slice A0_1 n0_1 c0_1], .int .i64 y1, .slice A2 n2 c2] w fun e w' => e = .returned (.bool true) ∧ Ext w w' := by
  have hsO0_0 := hs0_0
  have hsO0_1 := hs0_1
  have hsO2 := hs2
  by_cases hz0 : (n0_0 : Int) + (n0_1 : Int) ≤ (1048576 : Int)
  rotate_left
  · go_enter Try.func9, Try.ntmps9
    go_wp2_with fail
    refine (szVersions_no _ _ _ _ _ _ _ ((1048576 : Int)) _ hm0_0 hm0_1 (by omega) (by omega) (by omega)).mono ?_
    rintro e w1 ⟨rfl, xw1⟩
    have ba0 : Hid (Bx w1 (w.heap.size) 36 #[.slice A0_0 n0_0 c0_0, .int .i64 f0_1, .slice A0_1 n0_1 c0_1]) := Bx.ext (Bx.new' _ _ _ rfl) xw1
    have zw1 : w.heap.size + 1 ≤ w1.heap.size := by have h := xw1.size; (try simp at h); omega
    replace xw1 := Ext.tr ((Ext.refl' w).al _) xw1
    have xx := xw1
    replace hs0_0 := hsO0_0.ext xx
    replace hs0_1 := hsO0_1.ext xx
    replace hs2 := hsO2.ext xx
    clear xw1
    go_wp2
    go_ret
    exact ⟨rfl, xx⟩
  by_cases hz1 : (n2 : Int) ≤ (1048576 : Int) - (n0_0 : Int) - (n0_1 : Int)
  rotate_left
  · go_enter Try.func9, Try.ntmps9
    go_wp2_with fail
    refine (szVersions_yes _ _ _ _ _ _ _ ((1048576 : Int)) _ hm0_0 hm0_1 (by omega) (by omega) (by omega)).mono ?_
    rintro e w1 ⟨rfl, xw1⟩
    have ba0 : Hid (Bx w1 (w.heap.size) 36 #[.slice A0_0 n0_0 c0_0, .int .i64 f0_1, .slice A0_1 n0_1 c0_1]) := Bx.ext (Bx.new' _ _ _ rfl) xw1
    have zw1 : w.heap.size + 1 ≤ w1.heap.size := by have h := xw1.size; (try simp at h); omega
    replace xw1 := Ext.tr ((Ext.refl' w).al _) xw1
    have xx := xw1
    replace hs0_0 := hsO0_0.ext xx
    replace hs0_1 := hsO0_1.ext xx
    replace hs2 := hsO2.ext xx
    clear xw1
    go_wp2_with fail
    refine (szRowS_any _ _ _ ((1048576 : Int) - (n0_0 : Int) - (n0_1 : Int)) _ (by omega) (by omega) hm2).mono ?_
    rintro e w' ⟨rfl, rfl⟩
    rw [if_neg (by omega)]
    go_wp2
    go_ret
    exact ⟨rfl, xx⟩
  have hN0_0 : n0_0 ≤ 1048576 := by omega
  have hN0_1 : n0_1 ≤ 1048576 := by omega
  have hN2 : n2 ≤ 1048576 := by omega
  go_enter Try.func9, Try.ntmps9
  go_wp2_with fail
  refine (szVersions_yes _ _ _ _ _ _ _ ((1048576 : Int)) _ hm0_0 hm0_1 (by omega) (by omega) (by omega)).mono ?_
  rintro e w1 ⟨rfl, xw1⟩
  have ba0 : Hid (Bx w1 (w.heap.size) 36 #[.slice A0_0 n0_0 c0_0, .int .i64 f0_1, .slice A0_1 n0_1 c0_1]) := Bx.ext (Bx.new' _ _ _ rfl) xw1
  have zw1 : w.heap.size + 1 ≤ w1.heap.size := by have h := xw1.size; (try simp at h); omega
  replace xw1 := Ext.tr ((Ext.refl' w).al _) xw1
  have xx := xw1
  replace hs0_0 := hsO0_0.ext xx
  replace hs0_1 := hsO0_1.ext xx
  replace hs2 := hsO2.ext xx
  clear xw1
  go_wp2_with fail
  refine (szRowS_any _ _ _ ((1048576 : Int) - (n0_0 : Int) - (n0_1 : Int)) _ (by omega) (by omega) hm2).mono ?_
  rintro e w' ⟨rfl, rfl⟩
  rw [if_pos (by omega)]
  have ea0_0 : w1.cell? ⟨w.heap.size, 0, none⟩ = some (.slice A0_0 n0_0 c0_0) := ba0.out.cell 0
  have ea0_1 : w1.cell? ⟨w.heap.size, 1, none⟩ = some (.int .i64 f0_1) := ba0.out.cell 1
  have ea0_2 : w1.cell? ⟨w.heap.size, 2, none⟩ = some (.slice A0_1 n0_1 c0_1) := ba0.out.cell 2
  go_wp2_with fail
  refine (toVersions_any _ _ _ _ _ _ _ _ _ _ _ hs0_0 hN0_0 _ hs0_1 hN0_1).mono ?_
  rintro e w2 ⟨B2_0, d2_0, B2_1, d2_1, rfl, o2_0, o2_1, ap2, x2⟩
  clear ea0_0 ea0_1 ea0_2
  replace ba0 := Lib.hid (ba0.out.ext (Ext.tr (Ext.refl' w1) x2))
  have zw2 : w1.heap.size + 0 ≤ w2.heap.size := by have h := x2.size; (try simp at h); omega
  replace xx := xx.tr x2
  replace hs0_0 := hsO0_0.ext xx
  replace hs0_1 := hsO0_1.ext xx
  replace hs2 := hsO2.ext xx
  clear x2
  have r2_0 : Hid (∀ g, (Value.slice B2_0 n0_0 d2_0).ownBlock = some g → w1.heap.size + 0 ≤ g ∧ g < w2.heap.size) := fun g hg => by have h := o2_0.lt g hg; (try simp only [World.heap_alloc_size] at h); omega
  have r2_1 : Hid (∀ g, (Value.slice B2_1 n0_1 d2_1).ownBlock = some g → w1.heap.size + 0 ≤ g ∧ g < w2.heap.size) := fun g hg => by have h := o2_1.lt g hg; (try simp only [World.heap_alloc_size] at h); omega
  go_wp2_with fail
  refine (toRowS_any _ _ _ _ _ _ hs2 hN2).mono ?_
  rintro e w3 ⟨B3_0, d3_0, rfl, o3_0, x3⟩
  replace ba0 := Lib.hid (ba0.out.ext (Ext.tr (Ext.refl' w2) x3))
  have zw3 : w2.heap.size + 0 ≤ w3.heap.size := by have h := x3.size; (try simp at h); omega
  replace o2_0 := own_ext o2_0 x3
  replace o2_1 := own_ext o2_1 x3
  replace xx := xx.tr x3
  replace hs0_0 := hsO0_0.ext xx
  replace hs0_1 := hsO0_1.ext xx
  replace hs2 := hsO2.ext xx
  clear x3
  have r3_0 : Hid (∀ g, (Value.slice B3_0 n2 d3_0).ownBlock = some g → w2.heap.size + 0 ≤ g ∧ g < w3.heap.size) := fun g hg => by have h := o3_0.lt g hg; (try simp only [World.heap_alloc_size] at h); omega
  go_wp2_with fail
  refine (spec_VersPut _ _ _ _ _ _ _ _ _ _ _ _ _ _ _ _ (ownSl o2_0) hN0_0 _ (ownSl o2_1) hN0_1 _ (ownSl o3_0) hN2).mono ?_
  rintro e w4 ⟨B4_0_0, m4_0_0, d4_0_0, B4_0_1, m4_0_1, d4_0_1, rfl, o4_0_0, o4_0_1, ap4_0, x4⟩
  replace ba0 := Lib.hid (ba0.out.ext (Ext.tr (Ext.refl' w3) x4))
  have zw4 : w3.heap.size + 0 ≤ w4.heap.size := by have h := x4.size; (try simp at h); omega
  replace o2_0 := own_ext o2_0 x4
  replace o2_1 := own_ext o2_1 x4
  replace o3_0 := own_ext o3_0 x4
  replace xx := xx.tr x4
  replace hs0_0 := hsO0_0.ext xx
  replace hs0_1 := hsO0_1.ext xx
  replace hs2 := hsO2.ext xx
  clear x4
  have r4_0_0 : Hid (∀ g, (Value.slice B4_0_0 m4_0_0 d4_0_0).ownBlock = some g → w3.heap.size + 0 ≤ g ∧ g < w4.heap.size) := fun g hg => by have h := o4_0_0.lt g hg; (try simp only [World.heap_alloc_size] at h); omega
  have r4_0_1 : Hid (∀ g, (Value.slice B4_0_1 m4_0_1 d4_0_1).ownBlock = some g → w3.heap.size + 0 ≤ g ∧ g < w4.heap.size) := fun g hg => by have h := o4_0_1.lt g hg; (try simp only [World.heap_alloc_size] at h); omega
  clear o2_0 o2_1
  clear o3_0
  have bd0_0 : m4_0_0 ≤ 1048576 := by have h1 := own_len o4_0_0; have h3 := hsO0_0.len; rw [ints_length] at h1; omega
  have bd0_1 : m4_0_1 ≤ 1048576 := by have h1 := o4_0_1.1; have h2 := putL_le l0_0 f0_1 l0_1 y1 l2; have h3 := hsO0_1.flen Ver.cells_length (by omega); rw [flat_length Ver.cells_length] at h1; omega
  have la0 : w.heap.size < w4.heap.size := ba0.out.lt
  have ea0_0 : w4.cell? ⟨w.heap.size, 0, none⟩ = some (.slice A0_0 n0_0 c0_0) := ba0.out.cell 0
  have ea0_1 : w4.cell? ⟨w.heap.size, 1, none⟩ = some (.int .i64 f0_1) := ba0.out.cell 1
  have ea0_2 : w4.cell? ⟨w.heap.size, 2, none⟩ = some (.slice A0_1 n0_1 c0_1) := ba0.out.cell 2
  go_wp2_with fail
  refine (toVersions_any _ _ _ _ _ _ _ _ _ _ _ (hs0_0.ext ((Ext.refl' w4).al _)) hN0_0 _ (hs0_1.ext ((Ext.refl' w4).al _)) hN0_1).mono ?_
  rintro e w5 ⟨B5_0, d5_0, B5_1, d5_1, rfl, o5_0, o5_1, ap5, x5⟩
  clear la0 ea0_0 ea0_1 ea0_2
  replace ba0 := Lib.hid (ba0.out.ext (Ext.tr ((Ext.refl' w4).al _) x5))
  have bs0 : Hid (Bx w5 (w4.heap.size) 25 #[.slice B4_0_0 m4_0_0 d4_0_0, .int .i64 f0_1, .slice B4_0_1 m4_0_1 d4_0_1]) := Bx.ext (Bx.new' _ _ _ rfl) x5
  have zw5 : w4.heap.size + 1 ≤ w5.heap.size := by have h := x5.size; (try simp at h); omega
  replace x5 := Ext.tr ((Ext.refl' w4).al _) x5
  replace o4_0_0 := own_ext o4_0_0 x5
  replace o4_0_1 := own_ext o4_0_1 x5
  replace xx := xx.tr x5
  replace hs0_0 := hsO0_0.ext xx
  replace hs0_1 := hsO0_1.ext xx
  replace hs2 := hsO2.ext xx
  clear x5
  have r5_0 : Hid (∀ g, (Value.slice B5_0 n0_0 d5_0).ownBlock = some g → w4.heap.size + 1 ≤ g ∧ g < w5.heap.size) := fun g hg => by have h := o5_0.lt g hg; (try simp only [World.heap_alloc_size] at h); omega
  have r5_1 : Hid (∀ g, (Value.slice B5_1 n0_1 d5_1).ownBlock = some g → w4.heap.size + 1 ≤ g ∧ g < w5.heap.size) := fun g hg => by have h := o5_1.lt g hg; (try simp only [World.heap_alloc_size] at h); omega
  go_wp2_with fail
  refine (toRowS_any _ _ _ _ _ _ (hs2.ext ((Ext.refl' w5).al _)) hN2).mono ?_
  rintro e w6 ⟨B6_0, d6_0, rfl, o6_0, x6⟩
  replace ba0 := Lib.hid (ba0.out.ext (Ext.tr ((Ext.refl' w5).al _) x6))
  replace bs0 := Lib.hid (bs0.out.ext (Ext.tr ((Ext.refl' w5).al _) x6))
  have bx0 : Hid (Bx w6 (w5.heap.size) 25 #[.slice B5_0 n0_0 d5_0, .int .i64 f0_1, .slice B5_1 n0_1 d5_1]) := Bx.ext (Bx.new' _ _ _ rfl) x6
  have zw6 : w5.heap.size + 1 ≤ w6.heap.size := by have h := x6.size; (try simp at h); omega
  replace x6 := Ext.tr ((Ext.refl' w5).al _) x6
  replace o4_0_0 := own_ext o4_0_0 x6
  replace o4_0_1 := own_ext o4_0_1 x6
  replace o5_0 := own_ext o5_0 x6
  replace o5_1 := own_ext o5_1 x6
  replace xx := xx.tr x6
  replace hs0_0 := hsO0_0.ext xx
  replace hs0_1 := hsO0_1.ext xx
  replace hs2 := hsO2.ext xx
  clear x6
  have r6_0 : Hid (∀ g, (Value.slice B6_0 n2 d6_0).ownBlock = some g → w5.heap.size + 1 ≤ g ∧ g < w6.heap.size) := fun g hg => by have h := o6_0.lt g hg; (try simp only [World.heap_alloc_size] at h); omega
  have ex0_0 : w6.cell? ⟨w5.heap.size, 0, none⟩ = some (.slice B5_0 n0_0 d5_0) := bx0.out.cell 0
  have ex0_1 : w6.cell? ⟨w5.heap.size, 1, none⟩ = some (.int .i64 f0_1) := bx0.out.cell 1
  have ex0_2 : w6.cell? ⟨w5.heap.size, 2, none⟩ = some (.slice B5_1 n0_1 d5_1) := bx0.out.cell 2
  go_wp2_with fail
  refine (impl_VersPut _ _ _ _ _ _ _ _ _ _ _ _ _ _ _ _ (ownSl o5_0) hN0_0 _ (ownSl o5_1) hN0_1 _ (ownSl o6_0) hN2).mono ?_
  rintro e w7 ⟨B7_0_0, m7_0_0, d7_0_0, B7_0_1, m7_0_1, d7_0_1, rfl, o7_0_0, o7_0_1, ap7_0, x7⟩
  clear ex0_0 ex0_1 ex0_2
  replace ba0 := Lib.hid (ba0.out.ext (Ext.tr (Ext.refl' w6) x7))
  replace bs0 := Lib.hid (bs0.out.ext (Ext.tr (Ext.refl' w6) x7))
  replace bx0 := Lib.hid (bx0.out.ext (Ext.tr (Ext.refl' w6) x7))
  have zw7 : w6.heap.size + 0 ≤ w7.heap.size := by have h := x7.size; (try simp at h); omega
  replace o4_0_0 := own_ext o4_0_0 x7
  replace o4_0_1 := own_ext o4_0_1 x7
  replace o5_0 := own_ext o5_0 x7
  replace o5_1 := own_ext o5_1 x7
  replace o6_0 := own_ext o6_0 x7
  replace xx := xx.tr x7
  replace hs0_0 := hsO0_0.ext xx
  replace hs0_1 := hsO0_1.ext xx
  replace hs2 := hsO2.ext xx
  clear x7
  have r7_0_0 : Hid (∀ g, (Value.slice B7_0_0 m7_0_0 d7_0_0).ownBlock = some g → w6.heap.size + 0 ≤ g ∧ g < w7.heap.size) := fun g hg => by have h := o7_0_0.lt g hg; (try simp only [World.heap_alloc_size] at h); omega
  have r7_0_1 : Hid (∀ g, (Value.slice B7_0_1 m7_0_1 d7_0_1).ownBlock = some g → w6.heap.size + 0 ≤ g ∧ g < w7.heap.size) := fun g hg => by have h := o7_0_1.lt g hg; (try simp only [World.heap_alloc_size] at h); omega
  obtain rfl : m4_0_0 = m7_0_0 := by have h1 := o4_0_0.1; have h2 := o7_0_0.1; omega
  obtain rfl : m4_0_1 = m7_0_1 := by have h1 := o4_0_1.1; have h2 := o7_0_1.1; omega
  have ls0 : w4.heap.size < w7.heap.size := bs0.out.lt
  have es0_0 : w7.cell? ⟨w4.heap.size, 0, none⟩ = some (.slice B4_0_0 m4_0_0 d4_0_0) := bs0.out.cell 0
  have es0_1 : w7.cell? ⟨w4.heap.size, 1, none⟩ = some (.int .i64 f0_1) := bs0.out.cell 1
  have es0_2 : w7.cell? ⟨w4.heap.size, 2, none⟩ = some (.slice B4_0_1 m4_0_1 d4_0_1) := bs0.out.cell 2
  go_wp2_with fail
  refine (eqVersions_same _ _ _ _ _ _ _ _ _ _ _ _ _ _ _ (ownSl (own_ext o7_0_0 ((Ext.refl' w7).al _))) (by omega) _ (ownSl (own_ext o7_0_1 ((Ext.refl' w7).al _))) (by omega) _ (ownSl (own_ext o4_0_0 ((Ext.refl' w7).al _))) _ (ownSl (own_ext o4_0_1 ((Ext.refl' w7).al _)))).mono ?_
  rintro e w8 ⟨rfl, x8⟩
  clear ls0 es0_0 es0_1 es0_2
  replace ba0 := Lib.hid (ba0.out.ext (Ext.tr ((Ext.refl' w7).al _) x8))
  replace bs0 := Lib.hid (bs0.out.ext (Ext.tr ((Ext.refl' w7).al _) x8))
  replace bx0 := Lib.hid (bx0.out.ext (Ext.tr ((Ext.refl' w7).al _) x8))
  have bg0 : Hid (Bx w8 (w7.heap.size) 25 #[.slice B7_0_0 m4_0_0 d7_0_0, .int .i64 f0_1, .slice B7_0_1 m4_0_1 d7_0_1]) := Bx.ext (Bx.new' _ _ _ rfl) x8
  have zw8 : w7.heap.size + 1 ≤ w8.heap.size := by have h := x8.size; (try simp at h); omega
  replace x8 := Ext.tr ((Ext.refl' w7).al _) x8
  replace o4_0_0 := own_ext o4_0_0 x8
  replace o4_0_1 := own_ext o4_0_1 x8
  replace o5_0 := own_ext o5_0 x8
  replace o5_1 := own_ext o5_1 x8
  replace o6_0 := own_ext o6_0 x8
  replace o7_0_0 := own_ext o7_0_0 x8
  replace o7_0_1 := own_ext o7_0_1 x8
  replace xx := xx.tr x8
  replace hs0_0 := hsO0_0.ext xx
  replace hs0_1 := hsO0_1.ext xx
  replace hs2 := hsO2.ext xx
  clear x8
  have ex0_0 : w8.cell? ⟨w5.heap.size, 0, none⟩ = some (.slice B5_0 n0_0 d5_0) := bx0.out.cell 0
  have ex0_1 : w8.cell? ⟨w5.heap.size, 1, none⟩ = some (.int .i64 f0_1) := bx0.out.cell 1
  have ex0_2 : w8.cell? ⟨w5.heap.size, 2, none⟩ = some (.slice B5_1 n0_1 d5_1) := bx0.out.cell 2
  have ea0_0 : w8.cell? ⟨w.heap.size, 0, none⟩ = some (.slice A0_0 n0_0 c0_0) := ba0.out.cell 0
  have ea0_1 : w8.cell? ⟨w.heap.size, 1, none⟩ = some (.int .i64 f0_1) := ba0.out.cell 1
  have ea0_2 : w8.cell? ⟨w.heap.size, 2, none⟩ = some (.slice A0_1 n0_1 c0_1) := ba0.out.cell 2
  go_wp2_with fail
  go_region_with (first | (go_at_call 21; refine (toVersions_any _ _ _ _ _ _ _ _ _ _ _ (hs0_0.ext ((Ext.refl' w8).dr)) hN0_0 _ (hs0_1.ext ((Ext.refl' w8).dr)) hN0_1).mono ?_; rintro e w9 ⟨B9_0, d9_0, B9_1, d9_1, rfl, o9_0, o9_1, ap9, x9⟩; have bq : Hid (Bx w9 (w5.heap.size) 25 #[.slice B5_0 n0_0 d5_0, .int .i64 f0_1, .slice B5_1 n0_1 d5_1]) := Bx.ext ((bx0.out.ext ((Ext.refl' w8).dr))) x9; have eq_0 : w9.cell? ⟨w5.heap.size, 0, none⟩ = some (.slice B5_0 n0_0 d5_0) := bq.out.cell 0; have eq_1 : w9.cell? ⟨w5.heap.size, 1, none⟩ = some (.int .i64 f0_1) := bq.out.cell 1; have eq_2 : w9.cell? ⟨w5.heap.size, 2, none⟩ = some (.slice B5_1 n0_1 d5_1) := bq.out.cell 2) | (go_at_call 14; refine (eqVersions_same _ _ _ _ _ _ _ _ _ _ _ _ _ _ _ (ownSl (own_ext o5_0 (Ext.tr ((Ext.refl' w8).dr) x9))) (by omega) _ (ownSl (own_ext o5_1 (Ext.tr ((Ext.refl' w8).dr) x9))) (by omega) _ (ownSl o9_0) _ (ownSl o9_1)).mono ?_; rintro e w10 ⟨rfl, x10⟩))
  all_goals
    clear bq eq_0 eq_1 eq_2
    replace x10 := Ext.tr x9 x10
    clear o9_0 o9_1 ap9
    clear ex0_0 ex0_1 ex0_2 ea0_0 ea0_1 ea0_2
    replace ba0 := Lib.hid (ba0.out.ext (Ext.tr ((Ext.refl' w8).dr) x10))
    replace bs0 := Lib.hid (bs0.out.ext (Ext.tr ((Ext.refl' w8).dr) x10))
    replace bx0 := Lib.hid (bx0.out.ext (Ext.tr ((Ext.refl' w8).dr) x10))
    replace bg0 := Lib.hid (bg0.out.ext (Ext.tr ((Ext.refl' w8).dr) x10))
    have zw10 : w8.heap.size + 0 ≤ w10.heap.size := by have h := x10.size; (try simp at h); omega
    replace x10 := Ext.tr ((Ext.refl' w8).dr) x10
    replace o4_0_0 := own_ext o4_0_0 x10
    replace o4_0_1 := own_ext o4_0_1 x10
    replace o5_0 := own_ext o5_0 x10
    replace o5_1 := own_ext o5_1 x10
    replace o6_0 := own_ext o6_0 x10
    replace o7_0_0 := own_ext o7_0_0 x10
    replace o7_0_1 := own_ext o7_0_1 x10
    replace xx := xx.tr x10
    replace hs0_0 := hsO0_0.ext xx
    replace hs0_1 := hsO0_1.ext xx
    replace hs2 := hsO2.ext xx
    clear x10
    go_wp2_with fail
    refine (toRowS_any _ _ _ _ _ _ hs2 hN2).mono ?_
    rintro e w11 ⟨B11_0, d11_0, rfl, o11_0, x11⟩
    replace ba0 := Lib.hid (ba0.out.ext (Ext.tr (Ext.refl' w10) x11))
    replace bs0 := Lib.hid (bs0.out.ext (Ext.tr (Ext.refl' w10) x11))
    replace bx0 := Lib.hid (bx0.out.ext (Ext.tr (Ext.refl' w10) x11))
    replace bg0 := Lib.hid (bg0.out.ext (Ext.tr (Ext.refl' w10) x11))
    have zw11 : w10.heap.size + 0 ≤ w11.heap.size := by have h := x11.size; (try simp at h); omega
    replace o4_0_0 := own_ext o4_0_0 x11
    replace o4_0_1 := own_ext o4_0_1 x11
    replace o5_0 := own_ext o5_0 x11
    replace o5_1 := own_ext o5_1 x11
    replace o6_0 := own_ext o6_0 x11
    replace o7_0_0 := own_ext o7_0_0 x11
    replace o7_0_1 := own_ext o7_0_1 x11
    replace xx := xx.tr x11
    replace hs0_0 := hsO0_0.ext xx
    replace hs0_1 := hsO0_1.ext xx
    replace hs2 := hsO2.ext xx
    clear x11
    have r11_0 : Hid (∀ g, (Value.slice B11_0 n2 d11_0).ownBlock = some g → w10.heap.size + 0 ≤ g ∧ g < w11.heap.size) := fun g hg => by have h := o11_0.lt g hg; (try simp only [World.heap_alloc_size] at h); omega
    go_wp2_with fail
    refine (eqRowS_same _ _ _ _ _ _ _ _ _ (ownSl o6_0) (ownSl o11_0) (by omega)).mono ?_
    rintro e w12 ⟨rfl, x12⟩
    replace ba0 := Lib.hid (ba0.out.ext (Ext.tr (Ext.refl' w11) x12))
    replace bs0 := Lib.hid (bs0.out.ext (Ext.tr (Ext.refl' w11) x12))
    replace bx0 := Lib.hid (bx0.out.ext (Ext.tr (Ext.refl' w11) x12))
    replace bg0 := Lib.hid (bg0.out.ext (Ext.tr (Ext.refl' w11) x12))
    have zw12 : w11.heap.size + 0 ≤ w12.heap.size := by have h := x12.size; (try simp at h); omega
    replace o4_0_0 := own_ext o4_0_0 x12
    replace o4_0_1 := own_ext o4_0_1 x12
    replace o5_0 := own_ext o5_0 x12
    replace o5_1 := own_ext o5_1 x12
    replace o6_0 := own_ext o6_0 x12
    replace o7_0_0 := own_ext o7_0_0 x12
    replace o7_0_1 := own_ext o7_0_1 x12
    replace o11_0 := own_ext o11_0 x12
    replace xx := xx.tr x12
    replace hs0_0 := hsO0_0.ext xx
    replace hs0_1 := hsO0_1.ext xx
    replace hs2 := hsO2.ext xx
    clear x12
    clear o11_0
    have ex0_0 : w12.cell? ⟨w5.heap.size, 0, none⟩ = some (.slice B5_0 n0_0 d5_0) := bx0.out.cell 0
    have ex0_1 : w12.cell? ⟨w5.heap.size, 1, none⟩ = some (.int .i64 f0_1) := bx0.out.cell 1
    have ex0_2 : w12.cell? ⟨w5.heap.size, 2, none⟩ = some (.slice B5_1 n0_1 d5_1) := bx0.out.cell 2
    go_wp2_with fail
    refine (markVersions_any _ _ _ _ _ _ _ _ _ _ (1) _ (own_base o5_0 (Nat.zero_le _)) (own_base o5_1 (Nat.zero_le _)) ap5 (by omega) (by omega)).mono ?_
    rintro e w13 ⟨rfl, o13_0, o13_1, cc⟩
    clear ex0_0 ex0_1 ex0_2
    have n_b : Hid (Bx w13 (w.heap.size) 36 #[.slice A0_0 n0_0 c0_0, .int .i64 f0_1, .slice A0_1 n0_1 c0_1]) := Bx.chg (ba0.out) cc (fun qq => by (rcases qq with qq | qq <;> first | (have h2 := r5_0.out _ qq; skip; omega) | (have h2 := r5_1.out _ qq; skip; omega)))
    clear ba0
    have ba0 := n_b
    clear n_b
    have n_b : Hid (Bx w13 (w4.heap.size) 25 #[.slice B4_0_0 m4_0_0 d4_0_0, .int .i64 f0_1, .slice B4_0_1 m4_0_1 d4_0_1]) := Bx.chg (bs0.out) cc (fun qq => by (rcases qq with qq | qq <;> first | (have h2 := r5_0.out _ qq; skip; omega) | (have h2 := r5_1.out _ qq; skip; omega)))
    clear bs0
    have bs0 := n_b
    clear n_b
    have n_b : Hid (Bx w13 (w5.heap.size) 25 #[.slice B5_0 n0_0 d5_0, .int .i64 f0_1, .slice B5_1 n0_1 d5_1]) := Bx.chg (bx0.out) cc (fun qq => by (rcases qq with qq | qq <;> first | (have h2 := r5_0.out _ qq; skip; omega) | (have h2 := r5_1.out _ qq; skip; omega)))
    clear bx0
    have bx0 := n_b
    clear n_b
    have n_b : Hid (Bx w13 (w7.heap.size) 25 #[.slice B7_0_0 m4_0_0 d7_0_0, .int .i64 f0_1, .slice B7_0_1 m4_0_1 d7_0_1]) := Bx.chg (bg0.out) cc (fun qq => by (rcases qq with qq | qq <;> first | (have h2 := r5_0.out _ qq; skip; omega) | (have h2 := r5_1.out _ qq; skip; omega)))
    clear bg0
    have bg0 := n_b
    clear n_b
    have zw13 : w12.heap.size + 0 ≤ w13.heap.size := by have h := cc.size; (try simp at h); omega
    replace o4_0_0 := own_chg o4_0_0 cc (fun g hg qq => by (rcases qq with qq | qq <;> first | (have h2 := r5_0.out _ qq; have h1 := r4_0_0.out g hg; omega) | (have h2 := r5_1.out _ qq; have h1 := r4_0_0.out g hg; omega)))
    replace o4_0_1 := own_chg o4_0_1 cc (fun g hg qq => by (rcases qq with qq | qq <;> first | (have h2 := r5_0.out _ qq; have h1 := r4_0_1.out g hg; omega) | (have h2 := r5_1.out _ qq; have h1 := r4_0_1.out g hg; omega)))
    replace o6_0 := own_chg o6_0 cc (fun g hg qq => by (rcases qq with qq | qq <;> first | (have h2 := r5_0.out _ qq; have h1 := r6_0.out g hg; omega) | (have h2 := r5_1.out _ qq; have h1 := r6_0.out g hg; omega)))
    replace o7_0_0 := own_chg o7_0_0 cc (fun g hg qq => by (rcases qq with qq | qq <;> first | (have h2 := r5_0.out _ qq; have h1 := r7_0_0.out g hg; omega) | (have h2 := r5_1.out _ qq; have h1 := r7_0_0.out g hg; omega)))
    replace o7_0_1 := own_chg o7_0_1 cc (fun g hg qq => by (rcases qq with qq | qq <;> first | (have h2 := r5_0.out _ qq; have h1 := r7_0_1.out g hg; omega) | (have h2 := r5_1.out _ qq; have h1 := r7_0_1.out g hg; omega)))
    replace xx := cc.ext xx (fun g qq => by (rcases qq with qq | qq <;> first | (have h2 := r5_0.out _ qq; skip; omega) | (have h2 := r5_1.out _ qq; skip; omega)))
    replace hs0_0 := hsO0_0.ext xx
    replace hs0_1 := hsO0_1.ext xx
    replace hs2 := hsO2.ext xx
    clear cc
    clear o5_0
    have r13_0 := r5_0
    clear o5_1
    have r13_1 := r5_1
    clear o13_0 o13_1
    go_wp2_with fail
    refine (markRowS_any _ _ _ _ _ (1 + (n0_0 : Int) + (n0_1 : Int) * 3) _ o6_0 (by omega) (by omega)).mono ?_
    rintro e w14 ⟨rfl, o14_0, cc⟩
    have n_b : Hid (Bx w14 (w.heap.size) 36 #[.slice A0_0 n0_0 c0_0, .int .i64 f0_1, .slice A0_1 n0_1 c0_1]) := Bx.chg (ba0.out) cc (fun qq => by have h2 := r6_0.out _ qq; skip; omega)
    clear ba0
    have ba0 := n_b
    clear n_b
    have n_b : Hid (Bx w14 (w4.heap.size) 25 #[.slice B4_0_0 m4_0_0 d4_0_0, .int .i64 f0_1, .slice B4_0_1 m4_0_1 d4_0_1]) := Bx.chg (bs0.out) cc (fun qq => by have h2 := r6_0.out _ qq; skip; omega)
    clear bs0
    have bs0 := n_b
    clear n_b
    have n_b : Hid (Bx w14 (w5.heap.size) 25 #[.slice B5_0 n0_0 d5_0, .int .i64 f0_1, .slice B5_1 n0_1 d5_1]) := Bx.chg (bx0.out) cc (fun qq => by have h2 := r6_0.out _ qq; skip; omega)
    clear bx0
    have bx0 := n_b
    clear n_b
    have n_b : Hid (Bx w14 (w7.heap.size) 25 #[.slice B7_0_0 m4_0_0 d7_0_0, .int .i64 f0_1, .slice B7_0_1 m4_0_1 d7_0_1]) := Bx.chg (bg0.out) cc (fun qq => by have h2 := r6_0.out _ qq; skip; omega)
    clear bg0
    have bg0 := n_b
    clear n_b
    have zw14 : w13.heap.size + 0 ≤ w14.heap.size := by have h := cc.size; (try simp at h); omega
    replace o4_0_0 := own_chg o4_0_0 cc (fun g hg qq => by have h2 := r6_0.out _ qq; have h1 := r4_0_0.out g hg; omega)
    replace o4_0_1 := own_chg o4_0_1 cc (fun g hg qq => by have h2 := r6_0.out _ qq; have h1 := r4_0_1.out g hg; omega)
    replace o7_0_0 := own_chg o7_0_0 cc (fun g hg qq => by have h2 := r6_0.out _ qq; have h1 := r7_0_0.out g hg; omega)
    replace o7_0_1 := own_chg o7_0_1 cc (fun g hg qq => by have h2 := r6_0.out _ qq; have h1 := r7_0_1.out g hg; omega)
    replace xx := cc.ext xx (fun g qq => by have h2 := r6_0.out _ qq; skip; omega)
    replace hs0_0 := hsO0_0.ext xx
    replace hs0_1 := hsO0_1.ext xx
    replace hs2 := hsO2.ext xx
    clear cc
    clear o6_0
    have r14_0 := r6_0
    clear o14_0
    have hq1 : (0 : Int) ≤ 1 + (n0_0 : Int) + (n0_1 : Int) * 3 + (n2 : Int) * 2 := by omega
    have eg0_0 : w14.cell? ⟨w7.heap.size, 0, none⟩ = some (.slice B7_0_0 m4_0_0 d7_0_0) := bg0.out.cell 0
    have eg0_1 : w14.cell? ⟨w7.heap.size, 1, none⟩ = some (.int .i64 f0_1) := bg0.out.cell 1
    have eg0_2 : w14.cell? ⟨w7.heap.size, 2, none⟩ = some (.slice B7_0_1 m4_0_1 d7_0_1) := bg0.out.cell 2
    have es0_0 : w14.cell? ⟨w4.heap.size, 0, none⟩ = some (.slice B4_0_0 m4_0_0 d4_0_0) := bs0.out.cell 0
    have es0_1 : w14.cell? ⟨w4.heap.size, 1, none⟩ = some (.int .i64 f0_1) := bs0.out.cell 1
    have es0_2 : w14.cell? ⟨w4.heap.size, 2, none⟩ = some (.slice B4_0_1 m4_0_1 d4_0_1) := bs0.out.cell 2
    go_wp2_with fail
    refine (eqVersions_same _ _ _ _ _ _ _ _ _ _ _ _ _ _ _ (ownSl o7_0_0) (by omega) _ (ownSl o7_0_1) (by omega) _ (ownSl o4_0_0) _ (ownSl o4_0_1)).mono ?_
    rintro e w15 ⟨rfl, x15⟩
    clear eg0_0 eg0_1 eg0_2 es0_0 es0_1 es0_2
    replace ba0 := Lib.hid (ba0.out.ext (Ext.tr (Ext.refl' w14) x15))
    replace bs0 := Lib.hid (bs0.out.ext (Ext.tr (Ext.refl' w14) x15))
    replace bx0 := Lib.hid (bx0.out.ext (Ext.tr (Ext.refl' w14) x15))
    replace bg0 := Lib.hid (bg0.out.ext (Ext.tr (Ext.refl' w14) x15))
    have zw15 : w14.heap.size + 0 ≤ w15.heap.size := by have h := x15.size; (try simp at h); omega
    replace o4_0_0 := own_ext o4_0_0 x15
    replace o4_0_1 := own_ext o4_0_1 x15
    replace o7_0_0 := own_ext o7_0_0 x15
    replace o7_0_1 := own_ext o7_0_1 x15
    replace xx := xx.tr x15
    replace hs0_0 := hsO0_0.ext xx
    replace hs0_1 := hsO0_1.ext xx
    replace hs2 := hsO2.ext xx
    clear x15
    have eg0_0 : w15.cell? ⟨w7.heap.size, 0, none⟩ = some (.slice B7_0_0 m4_0_0 d7_0_0) := bg0.out.cell 0
    have eg0_1 : w15.cell? ⟨w7.heap.size, 1, none⟩ = some (.int .i64 f0_1) := bg0.out.cell 1
    have eg0_2 : w15.cell? ⟨w7.heap.size, 2, none⟩ = some (.slice B7_0_1 m4_0_1 d7_0_1) := bg0.out.cell 2
    go_wp2_with fail
    refine (markVersions_any _ _ _ _ _ _ _ _ _ _ (1) _ (own_base o7_0_0 (Nat.zero_le _)) (own_base o7_0_1 (Nat.zero_le _)) ap7_0 (by omega) (by omega)).mono ?_
    rintro e w16 ⟨rfl, o16_0, o16_1, cc⟩
    clear eg0_0 eg0_1 eg0_2
    have n_b : Hid (Bx w16 (w.heap.size) 36 #[.slice A0_0 n0_0 c0_0, .int .i64 f0_1, .slice A0_1 n0_1 c0_1]) := Bx.chg (ba0.out) cc (fun qq => by (rcases qq with qq | qq <;> first | (have h2 := r7_0_0.out _ qq; skip; omega) | (have h2 := r7_0_1.out _ qq; skip; omega)))
    clear ba0
    have ba0 := n_b
    clear n_b
    have n_b : Hid (Bx w16 (w4.heap.size) 25 #[.slice B4_0_0 m4_0_0 d4_0_0, .int .i64 f0_1, .slice B4_0_1 m4_0_1 d4_0_1]) := Bx.chg (bs0.out) cc (fun qq => by (rcases qq with qq | qq <;> first | (have h2 := r7_0_0.out _ qq; skip; omega) | (have h2 := r7_0_1.out _ qq; skip; omega)))
    clear bs0
    have bs0 := n_b
    clear n_b
    have n_b : Hid (Bx w16 (w5.heap.size) 25 #[.slice B5_0 n0_0 d5_0, .int .i64 f0_1, .slice B5_1 n0_1 d5_1]) := Bx.chg (bx0.out) cc (fun qq => by (rcases qq with qq | qq <;> first | (have h2 := r7_0_0.out _ qq; skip; omega) | (have h2 := r7_0_1.out _ qq; skip; omega)))
    clear bx0
    have bx0 := n_b
    clear n_b
    have n_b : Hid (Bx w16 (w7.heap.size) 25 #[.slice B7_0_0 m4_0_0 d7_0_0, .int .i64 f0_1, .slice B7_0_1 m4_0_1 d7_0_1]) := Bx.chg (bg0.out) cc (fun qq => by (rcases qq with qq | qq <;> first | (have h2 := r7_0_0.out _ qq; skip; omega) | (have h2 := r7_0_1.out _ qq; skip; omega)))
    clear bg0
    have bg0 := n_b
    clear n_b
    have zw16 : w15.heap.size + 0 ≤ w16.heap.size := by have h := cc.size; (try simp at h); omega
    replace o4_0_0 := own_chg o4_0_0 cc (fun g hg qq => by (rcases qq with qq | qq <;> first | (have h2 := r7_0_0.out _ qq; have h1 := r4_0_0.out g hg; omega) | (have h2 := r7_0_1.out _ qq; have h1 := r4_0_0.out g hg; omega)))
    replace o4_0_1 := own_chg o4_0_1 cc (fun g hg qq => by (rcases qq with qq | qq <;> first | (have h2 := r7_0_0.out _ qq; have h1 := r4_0_1.out g hg; omega) | (have h2 := r7_0_1.out _ qq; have h1 := r4_0_1.out g hg; omega)))
    replace xx := cc.ext xx (fun g qq => by (rcases qq with qq | qq <;> first | (have h2 := r7_0_0.out _ qq; skip; omega) | (have h2 := r7_0_1.out _ qq; skip; omega)))
    replace hs0_0 := hsO0_0.ext xx
    replace hs0_1 := hsO0_1.ext xx
    replace hs2 := hsO2.ext xx
    clear cc
    clear o7_0_0
    have r16_0 := r7_0_0
    clear o7_0_1
    have r16_1 := r7_0_1
    have hq2_0 : (0 : Int) ≤ 1 + (m4_0_0 : Int) + (m4_0_1 : Int) * 3 := by omega
    have hq3 : ((1 + (m4_0_0 : Int) + (m4_0_1 : Int) * 3) != (1 + (m4_0_0 : Int) + (m4_0_1 : Int) * 3)) = false := by simp
    have eg0_0 : w16.cell? ⟨w7.heap.size, 0, none⟩ = some (.slice B7_0_0 m4_0_0 d7_0_0) := bg0.out.cell 0
    have eg0_1 : w16.cell? ⟨w7.heap.size, 1, none⟩ = some (.int .i64 f0_1) := bg0.out.cell 1
    have eg0_2 : w16.cell? ⟨w7.heap.size, 2, none⟩ = some (.slice B7_0_1 m4_0_1 d7_0_1) := bg0.out.cell 2
    go_wp2_with fail
    refine (heldVersions_any _ _ _ _ _ _ _ (1) _ _ (ownSl o16_0) _ (ownSl o16_1) (by omega) (by omega)).mono ?_
    rintro e w17 ⟨rfl, x17⟩
    clear eg0_0 eg0_1 eg0_2
    replace ba0 := Lib.hid (ba0.out.ext (Ext.tr (Ext.refl' w16) x17))
    replace bs0 := Lib.hid (bs0.out.ext (Ext.tr (Ext.refl' w16) x17))
    replace bx0 := Lib.hid (bx0.out.ext (Ext.tr (Ext.refl' w16) x17))
    replace bg0 := Lib.hid (bg0.out.ext (Ext.tr (Ext.refl' w16) x17))
    have zw17 : w16.heap.size + 0 ≤ w17.heap.size := by have h := x17.size; (try simp at h); omega
    replace o4_0_0 := own_ext o4_0_0 x17
    replace o4_0_1 := own_ext o4_0_1 x17
    replace o16_0 := own_ext o16_0 x17
    replace o16_1 := own_ext o16_1 x17
    replace xx := xx.tr x17
    replace hs0_0 := hsO0_0.ext xx
    replace hs0_1 := hsO0_1.ext xx
    replace hs2 := hsO2.ext xx
    clear x17
    have ea0_0 : w17.cell? ⟨w.heap.size, 0, none⟩ = some (.slice A0_0 n0_0 c0_0) := ba0.out.cell 0
    have ea0_1 : w17.cell? ⟨w.heap.size, 1, none⟩ = some (.int .i64 f0_1) := ba0.out.cell 1
    have ea0_2 : w17.cell? ⟨w.heap.size, 2, none⟩ = some (.slice A0_1 n0_1 c0_1) := ba0.out.cell 2
    go_wp2_with fail
    refine (toVersions_any _ _ _ _ _ _ _ _ _ _ _ hs0_0 hN0_0 _ hs0_1 hN0_1).mono ?_
    rintro e w18 ⟨B18_0, d18_0, B18_1, d18_1, rfl, o18_0, o18_1, ap18, x18⟩
    clear ea0_0 ea0_1 ea0_2
    replace ba0 := Lib.hid (ba0.out.ext (Ext.tr (Ext.refl' w17) x18))
    replace bs0 := Lib.hid (bs0.out.ext (Ext.tr (Ext.refl' w17) x18))
    replace bx0 := Lib.hid (bx0.out.ext (Ext.tr (Ext.refl' w17) x18))
    replace bg0 := Lib.hid (bg0.out.ext (Ext.tr (Ext.refl' w17) x18))
    have zw18 : w17.heap.size + 0 ≤ w18.heap.size := by have h := x18.size; (try simp at h); omega
    replace o4_0_0 := own_ext o4_0_0 x18
    replace o4_0_1 := own_ext o4_0_1 x18
    replace o16_0 := own_ext o16_0 x18
    replace o16_1 := own_ext o16_1 x18
    replace xx := xx.tr x18
    replace hs0_0 := hsO0_0.ext xx
    replace hs0_1 := hsO0_1.ext xx
    replace hs2 := hsO2.ext xx
    clear x18
    have r18_0 : Hid (∀ g, (Value.slice B18_0 n0_0 d18_0).ownBlock = some g → w17.heap.size + 0 ≤ g ∧ g < w18.heap.size) := fun g hg => by have h := o18_0.lt g hg; (try simp only [World.heap_alloc_size] at h); omega
    have r18_1 : Hid (∀ g, (Value.slice B18_1 n0_1 d18_1).ownBlock = some g → w17.heap.size + 0 ≤ g ∧ g < w18.heap.size) := fun g hg => by have h := o18_1.lt g hg; (try simp only [World.heap_alloc_size] at h); omega
    go_wp2_with fail
    refine (toRowS_any _ _ _ _ _ _ hs2 hN2).mono ?_
    rintro e w19 ⟨B19_0, d19_0, rfl, o19_0, x19⟩
    replace ba0 := Lib.hid (ba0.out.ext (Ext.tr (Ext.refl' w18) x19))
    replace bs0 := Lib.hid (bs0.out.ext (Ext.tr (Ext.refl' w18) x19))
    replace bx0 := Lib.hid (bx0.out.ext (Ext.tr (Ext.refl' w18) x19))
    replace bg0 := Lib.hid (bg0.out.ext (Ext.tr (Ext.refl' w18) x19))
    have zw19 : w18.heap.size + 0 ≤ w19.heap.size := by have h := x19.size; (try simp at h); omega
    replace o4_0_0 := own_ext o4_0_0 x19
    replace o4_0_1 := own_ext o4_0_1 x19
    replace o16_0 := own_ext o16_0 x19
    replace o16_1 := own_ext o16_1 x19
    replace o18_0 := own_ext o18_0 x19
    replace o18_1 := own_ext o18_1 x19
    replace xx := xx.tr x19
    replace hs0_0 := hsO0_0.ext xx
    replace hs0_1 := hsO0_1.ext xx
    replace hs2 := hsO2.ext xx
    clear x19
    have r19_0 : Hid (∀ g, (Value.slice B19_0 n2 d19_0).ownBlock = some g → w18.heap.size + 0 ≤ g ∧ g < w19.heap.size) := fun g hg => by have h := o19_0.lt g hg; (try simp only [World.heap_alloc_size] at h); omega
    go_wp2_with fail
    refine (impl_VersPut _ _ _ _ _ _ _ _ _ _ _ _ _ _ _ _ (ownSl o18_0) hN0_0 _ (ownSl o18_1) hN0_1 _ (ownSl o19_0) hN2).mono ?_
    rintro e w20 ⟨B20_0_0, m20_0_0, d20_0_0, B20_0_1, m20_0_1, d20_0_1, rfl, o20_0_0, o20_0_1, ap20_0, x20⟩
    replace ba0 := Lib.hid (ba0.out.ext (Ext.tr (Ext.refl' w19) x20))
    replace bs0 := Lib.hid (bs0.out.ext (Ext.tr (Ext.refl' w19) x20))
    replace bx0 := Lib.hid (bx0.out.ext (Ext.tr (Ext.refl' w19) x20))
    replace bg0 := Lib.hid (bg0.out.ext (Ext.tr (Ext.refl' w19) x20))
    have zw20 : w19.heap.size + 0 ≤ w20.heap.size := by have h := x20.size; (try simp at h); omega
    replace o4_0_0 := own_ext o4_0_0 x20
    replace o4_0_1 := own_ext o4_0_1 x20
    replace o16_0 := own_ext o16_0 x20
    replace o16_1 := own_ext o16_1 x20
    replace o18_0 := own_ext o18_0 x20
    replace o18_1 := own_ext o18_1 x20
    replace o19_0 := own_ext o19_0 x20
    replace xx := xx.tr x20
    replace hs0_0 := hsO0_0.ext xx
    replace hs0_1 := hsO0_1.ext xx
    replace hs2 := hsO2.ext xx
    clear x20
    have r20_0_0 : Hid (∀ g, (Value.slice B20_0_0 m20_0_0 d20_0_0).ownBlock = some g → w19.heap.size + 0 ≤ g ∧ g < w20.heap.size) := fun g hg => by have h := o20_0_0.lt g hg; (try simp only [World.heap_alloc_size] at h); omega
    have r20_0_1 : Hid (∀ g, (Value.slice B20_0_1 m20_0_1 d20_0_1).ownBlock = some g → w19.heap.size + 0 ≤ g ∧ g < w20.heap.size) := fun g hg => by have h := o20_0_1.lt g hg; (try simp only [World.heap_alloc_size] at h); omega
    clear o18_0 o18_1
    clear o19_0
    obtain rfl : m4_0_0 = m20_0_0 := by have h1 := o4_0_0.1; have h2 := o20_0_0.1; omega
    obtain rfl : m4_0_1 = m20_0_1 := by have h1 := o4_0_1.1; have h2 := o20_0_1.1; omega
    have ls0 : w4.heap.size < w20.heap.size := bs0.out.lt
    have es0_0 : w20.cell? ⟨w4.heap.size, 0, none⟩ = some (.slice B4_0_0 m4_0_0 d4_0_0) := bs0.out.cell 0
    have es0_1 : w20.cell? ⟨w4.heap.size, 1, none⟩ = some (.int .i64 f0_1) := bs0.out.cell 1
    have es0_2 : w20.cell? ⟨w4.heap.size, 2, none⟩ = some (.slice B4_0_1 m4_0_1 d4_0_1) := bs0.out.cell 2
    go_wp2_with fail
    refine (eqVersions_same _ _ _ _ _ _ _ _ _ _ _ _ _ _ _ (ownSl (own_ext o20_0_0 ((Ext.refl' w20).al _))) (by omega) _ (ownSl (own_ext o20_0_1 ((Ext.refl' w20).al _))) (by omega) _ (ownSl (own_ext o4_0_0 ((Ext.refl' w20).al _))) _ (ownSl (own_ext o4_0_1 ((Ext.refl' w20).al _)))).mono ?_
    rintro e w21 ⟨rfl, x21⟩
    clear ls0 es0_0 es0_1 es0_2
    replace ba0 := Lib.hid (ba0.out.ext (Ext.tr ((Ext.refl' w20).al _) x21))
    replace bs0 := Lib.hid (bs0.out.ext (Ext.tr ((Ext.refl' w20).al _) x21))
    replace bx0 := Lib.hid (bx0.out.ext (Ext.tr ((Ext.refl' w20).al _) x21))
    replace bg0 := Lib.hid (bg0.out.ext (Ext.tr ((Ext.refl' w20).al _) x21))
    have bh0 : Hid (Bx w21 (w20.heap.size) 25 #[.slice B20_0_0 m4_0_0 d20_0_0, .int .i64 f0_1, .slice B20_0_1 m4_0_1 d20_0_1]) := Bx.ext (Bx.new' _ _ _ rfl) x21
    have zw21 : w20.heap.size + 1 ≤ w21.heap.size := by have h := x21.size; (try simp at h); omega
    replace x21 := Ext.tr ((Ext.refl' w20).al _) x21
    replace o4_0_0 := own_ext o4_0_0 x21
    replace o4_0_1 := own_ext o4_0_1 x21
    replace o16_0 := own_ext o16_0 x21
    replace o16_1 := own_ext o16_1 x21
    replace o20_0_0 := own_ext o20_0_0 x21
    replace o20_0_1 := own_ext o20_0_1 x21
    replace xx := xx.tr x21
    replace hs0_0 := hsO0_0.ext xx
    replace hs0_1 := hsO0_1.ext xx
    replace hs2 := hsO2.ext xx
    clear x21
    have eg0_0 : w21.cell? ⟨w7.heap.size, 0, none⟩ = some (.slice B7_0_0 m4_0_0 d7_0_0) := bg0.out.cell 0
    have eg0_1 : w21.cell? ⟨w7.heap.size, 1, none⟩ = some (.int .i64 f0_1) := bg0.out.cell 1
    have eg0_2 : w21.cell? ⟨w7.heap.size, 2, none⟩ = some (.slice B7_0_1 m4_0_1 d7_0_1) := bg0.out.cell 2
    go_wp2_with fail
    refine (heldVersions_any _ _ _ _ _ _ _ (1) _ _ (ownSl o16_0) _ (ownSl o16_1) (by omega) (by omega)).mono ?_
    rintro e w22 ⟨rfl, x22⟩
    clear eg0_0 eg0_1 eg0_2
    replace ba0 := Lib.hid (ba0.out.ext (Ext.tr (Ext.refl' w21) x22))
    replace bs0 := Lib.hid (bs0.out.ext (Ext.tr (Ext.refl' w21) x22))
    replace bx0 := Lib.hid (bx0.out.ext (Ext.tr (Ext.refl' w21) x22))
    replace bg0 := Lib.hid (bg0.out.ext (Ext.tr (Ext.refl' w21) x22))
    replace bh0 := Lib.hid (bh0.out.ext (Ext.tr (Ext.refl' w21) x22))
    have zw22 : w21.heap.size + 0 ≤ w22.heap.size := by have h := x22.size; (try simp at h); omega
    replace o4_0_0 := own_ext o4_0_0 x22
    replace o4_0_1 := own_ext o4_0_1 x22
    replace o16_0 := own_ext o16_0 x22
    replace o16_1 := own_ext o16_1 x22
    replace o20_0_0 := own_ext o20_0_0 x22
    replace o20_0_1 := own_ext o20_0_1 x22
    replace xx := xx.tr x22
    replace hs0_0 := hsO0_0.ext xx
    replace hs0_1 := hsO0_1.ext xx
    replace hs2 := hsO2.ext xx
    clear x22
    go_wp2
    go_ret
    exact ⟨rfl, xx⟩

end Go.Proofs.Ytnhkjgnfjphllaa
