/- VersNew of program and reference; the contract of laws.FnExactVersNew. No condition. -/
import Derived.Test.YtnhkjgnfjphllaaVersR
import Derived.Test.YtnhkjgnfjphllaaVals
import Derived.Test.YtnhkjgnfjphllaaCopyInts
namespace Go.Proofs.Ytnhkjgnfjphllaa
open Go.RowKit Go.Deep

noncomputable def newBase (l : List Int) : List Int := if valsOk l = true then l else []
theorem newBase_le (l : List Int) : (newBase l).length ≤ l.length := by unfold newBase; split <;> simp

set_option maxHeartbeats 2000000 in
theorem spec_VersNew (A : Option Addr) (n c : Nat) (l : List Int) (w : World) (S : Nat → Prop) (hs : Sl w S 1 A n (ints l)) (hm : n ≤ 1048576) :
    Calls Try.prog 11 #[.slice A n c] w fun e w' => ∃ B0 m0 d0 B1 m1 d1, e = .returned (.tuple #[.agg #[.slice B0 m0 d0, .int .i64 0, .slice B1 m1 d1], .bool (valsOk l)]) ∧
      w'.ownsRow w.heap.size 3 1 (.slice B0 m0 d0) m0 (ints (newBase l)) ∧ w'.ownsRow w.heap.size 73 3 (.slice B1 m1 d1) m1 (([] : List Ver).flatMap Ver.cells) ∧ Hid (Apart (.slice B0 m0 d0) (.slice B1 m1 d1)) ∧ Ext w w' := by
  cases hv : valsOk l
  · have HN : Hid (newBase l = []) := by unfold newBase; rw [hv]; rfl
    go_enter Try.func11, Try.ntmps11
    go_wp2_with fail
    refine (l3Vals_any _ _ _ l _ S (hs.ext ((Ext.refl' w).al _)) (by omega)).mono ?_
    rintro e w' ⟨rfl, rfl⟩
    rw [hv]
    clear hv
    go_wp2
    refine bodyPost_ret (v := .tuple #[.agg #[.slice none 0 0, .int .i64 0, .slice none 0 0], .bool false]) (by simp [results, Try.results11, go_sem]) rfl ?_
    exact ⟨none, 0, 0, none, 0, 0, rfl, by rw [HN.out]; exact World.ownsRow_nil _ _ _ _, World.ownsRow_nil _ _ _ _, fun g h => by simp [Value.ownBlock] at h, (Ext.refl' w).al _⟩
  · have HN : Hid (newBase l = l) := by unfold newBase; rw [hv]; rfl
    go_enter Try.func11, Try.ntmps11
    go_wp2_with fail
    refine (l3Vals_any _ _ _ l _ S (hs.ext ((Ext.refl' w).al _)) (by omega)).mono ?_
    rintro e w' ⟨rfl, rfl⟩
    rw [hv]
    clear hv
    go_wp2_with fail
    refine (l15Ints_any _ _ _ l _ S (hs.ext ((Ext.refl' w).al _)) hm).mono ?_
    rintro e w1 ⟨B, d, rfl, own, x1⟩
    have z1 : w.heap.size < w1.heap.size := by have h := x1.size; (try simp at h); omega
    have b1 : Hid (Bx w1 w.heap.size 25 #[.slice none 0 0, .int .i64 0, .slice none 0 0]) := (Bx.new' _ _ _ rfl).ext x1
    have c0 : w1.cell? ⟨w.heap.size, 0, none⟩ = some (.slice none 0 0) := b1.out.cell 0
    have c1 : w1.cell? ⟨w.heap.size, 1, none⟩ = some (.int .i64 0) := b1.out.cell 1
    have c2 : w1.cell? ⟨w.heap.size, 2, none⟩ = some (.slice none 0 0) := b1.out.cell 2
    have f0 : w1.frozen? ⟨w.heap.size, 0, none⟩ = false := b1.out.frozen 0
    have f1 : w1.frozen? ⟨w.heap.size, 1, none⟩ = false := b1.out.frozen 1
    have f2 : w1.frozen? ⟨w.heap.size, 2, none⟩ = false := b1.out.frozen 2
    have X1 := Lib.hid (Ext.tr ((Ext.refl' w).al _) x1)
    have HO := Lib.hid own
    clear x1 own hs
    go_wp2
    refine bodyPost_ret (v := .tuple #[.agg #[.slice B n d, .int .i64 0, .slice none 0 0], .bool true]) (by simp [results, Try.results11, go_sem, c0, c1, c2]) rfl ?_
    refine ⟨B, n, d, none, 0, 0, rfl, ?_, World.ownsRow_nil _ _ _ _, fun g _ h => by simp [Value.ownBlock] at h, ?_⟩
    · rw [HN.out]
      exact own_base (own_chg HO.out ((((Chg.refl (fun g => g = w.heap.size) _).sc rfl _).sc rfl _).sc rfl _) (fun g hg q => by have h1 := (HO.out.lt g hg).1; simp at h1; have q2 : g = w.heap.size := q; omega)) (by simp)
    · exact (((X1.out).sc (Nat.le_refl _) _).sc (Nat.le_refl _) _).sc (Nat.le_refl _) _

set_option maxHeartbeats 2000000 in
theorem impl_VersNew (A : Option Addr) (n c : Nat) (l : List Int) (w : World) (S : Nat → Prop) (hs : Sl w S 1 A n (ints l)) (hm : n ≤ 1048576) :
    Calls Try.prog 13 #[.slice A n c] w fun e w' => ∃ B0 m0 d0 B1 m1 d1, e = .returned (.tuple #[.agg #[.slice B0 m0 d0, .int .i64 0, .slice B1 m1 d1], .bool (valsOk l)]) ∧
      w'.ownsRow w.heap.size 3 1 (.slice B0 m0 d0) m0 (ints (newBase l)) ∧ w'.ownsRow w.heap.size 73 3 (.slice B1 m1 d1) m1 (([] : List Ver).flatMap Ver.cells) ∧ Hid (Apart (.slice B0 m0 d0) (.slice B1 m1 d1)) ∧ Ext w w' := by
  cases hv : valsOk l
  · have HN : Hid (newBase l = []) := by unfold newBase; rw [hv]; rfl
    go_enter Try.func13, Try.ntmps13
    go_wp2_with fail
    refine (areValues_any _ _ _ l _ S (hs.ext ((Ext.refl' w).al _)) (by omega)).mono ?_
    rintro e w' ⟨rfl, rfl⟩
    rw [hv]
    clear hv
    go_wp2
    refine bodyPost_ret (v := .tuple #[.agg #[.slice none 0 0, .int .i64 0, .slice none 0 0], .bool false]) (by simp [results, Try.results13, go_sem]) rfl ?_
    exact ⟨none, 0, 0, none, 0, 0, rfl, by rw [HN.out]; exact World.ownsRow_nil _ _ _ _, World.ownsRow_nil _ _ _ _, fun g h => by simp [Value.ownBlock] at h, (Ext.refl' w).al _⟩
  · have HN : Hid (newBase l = l) := by unfold newBase; rw [hv]; rfl
    go_enter Try.func13, Try.ntmps13
    go_wp2_with fail
    refine (areValues_any _ _ _ l _ S (hs.ext ((Ext.refl' w).al _)) (by omega)).mono ?_
    rintro e w' ⟨rfl, rfl⟩
    rw [hv]
    clear hv
    go_wp2_with fail
    refine (copyInts_any _ _ _ l _ S (hs.ext ((Ext.refl' w).al _)) hm).mono ?_
    rintro e w1 ⟨B, d, rfl, own, x1⟩
    have z1 : w.heap.size < w1.heap.size := by have h := x1.size; (try simp at h); omega
    have b1 : Hid (Bx w1 w.heap.size 25 #[.slice none 0 0, .int .i64 0, .slice none 0 0]) := (Bx.new' _ _ _ rfl).ext x1
    have c0 : w1.cell? ⟨w.heap.size, 0, none⟩ = some (.slice none 0 0) := b1.out.cell 0
    have c1 : w1.cell? ⟨w.heap.size, 1, none⟩ = some (.int .i64 0) := b1.out.cell 1
    have c2 : w1.cell? ⟨w.heap.size, 2, none⟩ = some (.slice none 0 0) := b1.out.cell 2
    have f0 : w1.frozen? ⟨w.heap.size, 0, none⟩ = false := b1.out.frozen 0
    have f1 : w1.frozen? ⟨w.heap.size, 1, none⟩ = false := b1.out.frozen 1
    have f2 : w1.frozen? ⟨w.heap.size, 2, none⟩ = false := b1.out.frozen 2
    have X1 := Lib.hid (Ext.tr ((Ext.refl' w).al _) x1)
    have HO := Lib.hid own
    clear x1 own hs
    go_wp2
    refine bodyPost_ret (v := .tuple #[.agg #[.slice B n d, .int .i64 0, .slice none 0 0], .bool true]) (by simp [results, Try.results13, go_sem, c0, c1, c2]) rfl ?_
    refine ⟨B, n, d, none, 0, 0, rfl, ?_, World.ownsRow_nil _ _ _ _, fun g _ h => by simp [Value.ownBlock] at h, ?_⟩
    · rw [HN.out]
      exact own_base (own_chg HO.out ((((Chg.refl (fun g => g = w.heap.size) _).sc rfl _).sc rfl _).sc rfl _) (fun g hg q => by have h1 := (HO.out.lt g hg).1; simp at h1; have q2 : g = w.heap.size := q; omega)) (by simp)
    · exact (((X1.out).sc (Nat.le_refl _) _).sc (Nat.le_refl _) _).sc (Nat.le_refl _) _

set_option maxHeartbeats 8000000 in
theorem law_VersNew (A0 : Option Addr) (n0 c0 : Nat) (l0 : List Int) (w : World) (hs0 : Sl w (fun _ => True) 1 A0 n0 (ints l0)) (hm0 : n0 ≤ 9223372036854775807) :
    Calls Try.prog 3 #[.slice A0 n0 c0] w fun e w' => e = .returned (.bool true) ∧ Ext w w' := by
  have hsO0 := hs0
  by_cases hn0 : n0 ≤ 1048576
  rotate_left
  · go_enter Try.func3, Try.ntmps3
    go_wp2
    go_ret
    exact ⟨rfl, (Ext.refl' w)⟩
  have hN0 : n0 ≤ 1048576 := by omega
  go_enter Try.func3, Try.ntmps3
  go_wp2_with fail
  refine (toIntS_any _ _ _ _ _ _ hs0 hN0).mono ?_
  rintro e w1 ⟨B1_0, d1_0, rfl, o1_0, x1⟩
  have zw1 : w.heap.size + 0 ≤ w1.heap.size := by have h := x1.size; (try simp at h); omega
  have xx := x1
  replace hs0 := hsO0.ext xx
  clear x1
  have r1_0 : Hid (∀ g, (Value.slice B1_0 n0 d1_0).ownBlock = some g → w.heap.size + 0 ≤ g ∧ g < w1.heap.size) := fun g hg => by have h := o1_0.lt g hg; (try simp only [World.heap_alloc_size] at h); omega
  go_wp2_with fail
  refine (spec_VersNew _ _ _ _ _ _ (ownSl o1_0) hN0).mono ?_
  rintro e w2 ⟨B2_0_0, m2_0_0, d2_0_0, B2_0_1, m2_0_1, d2_0_1, rfl, o2_0_0, o2_0_1, ap2_0, x2⟩
  have zw2 : w1.heap.size + 0 ≤ w2.heap.size := by have h := x2.size; (try simp at h); omega
  replace o1_0 := own_ext o1_0 x2
  replace xx := xx.tr x2
  replace hs0 := hsO0.ext xx
  clear x2
  have r2_0_0 : Hid (∀ g, (Value.slice B2_0_0 m2_0_0 d2_0_0).ownBlock = some g → w1.heap.size + 0 ≤ g ∧ g < w2.heap.size) := fun g hg => by have h := o2_0_0.lt g hg; (try simp only [World.heap_alloc_size] at h); omega
  have r2_0_1 : Hid (∀ g, (Value.slice B2_0_1 m2_0_1 d2_0_1).ownBlock = some g → w1.heap.size + 0 ≤ g ∧ g < w2.heap.size) := fun g hg => by have h := o2_0_1.lt g hg; (try simp only [World.heap_alloc_size] at h); omega
  clear o1_0
  have bd0_0 : m2_0_0 ≤ 1048576 := by have h1 := own_len o2_0_0; have h2 := newBase_le l0; have h3 := hsO0.len; rw [ints_length] at h1; omega
  have bd0_1 : m2_0_1 ≤ 1048576 := by have h1 := o2_0_1.1; simp at h1; omega
  go_wp2_with fail
  refine (toIntS_any _ _ _ _ _ _ (hs0.ext ((Ext.refl' w2).al _)) hN0).mono ?_
  rintro e w3 ⟨B3_0, d3_0, rfl, o3_0, x3⟩
  have bs0 : Hid (Bx w3 (w2.heap.size) 25 #[.slice B2_0_0 m2_0_0 d2_0_0, .int .i64 0, .slice B2_0_1 m2_0_1 d2_0_1]) := Bx.ext (Bx.new' _ _ _ rfl) x3
  have zw3 : w2.heap.size + 1 ≤ w3.heap.size := by have h := x3.size; (try simp at h); omega
  replace x3 := Ext.tr ((Ext.refl' w2).al _) x3
  replace o2_0_0 := own_ext o2_0_0 x3
  replace o2_0_1 := own_ext o2_0_1 x3
  replace xx := xx.tr x3
  replace hs0 := hsO0.ext xx
  clear x3
  have r3_0 : Hid (∀ g, (Value.slice B3_0 n0 d3_0).ownBlock = some g → w2.heap.size + 1 ≤ g ∧ g < w3.heap.size) := fun g hg => by have h := o3_0.lt g hg; (try simp only [World.heap_alloc_size] at h); omega
  go_wp2_with fail
  refine (impl_VersNew _ _ _ _ _ _ (ownSl o3_0) hN0).mono ?_
  rintro e w4 ⟨B4_0_0, m4_0_0, d4_0_0, B4_0_1, m4_0_1, d4_0_1, rfl, o4_0_0, o4_0_1, ap4_0, x4⟩
  replace bs0 := Lib.hid (bs0.out.ext (Ext.tr (Ext.refl' w3) x4))
  have zw4 : w3.heap.size + 0 ≤ w4.heap.size := by have h := x4.size; (try simp at h); omega
  replace o2_0_0 := own_ext o2_0_0 x4
  replace o2_0_1 := own_ext o2_0_1 x4
  replace o3_0 := own_ext o3_0 x4
  replace xx := xx.tr x4
  replace hs0 := hsO0.ext xx
  clear x4
  have r4_0_0 : Hid (∀ g, (Value.slice B4_0_0 m4_0_0 d4_0_0).ownBlock = some g → w3.heap.size + 0 ≤ g ∧ g < w4.heap.size) := fun g hg => by have h := o4_0_0.lt g hg; (try simp only [World.heap_alloc_size] at h); omega
  have r4_0_1 : Hid (∀ g, (Value.slice B4_0_1 m4_0_1 d4_0_1).ownBlock = some g → w3.heap.size + 0 ≤ g ∧ g < w4.heap.size) := fun g hg => by have h := o4_0_1.lt g hg; (try simp only [World.heap_alloc_size] at h); omega
  obtain rfl : m2_0_0 = m4_0_0 := by have h1 := o2_0_0.1; have h2 := o4_0_0.1; omega
  obtain rfl : m2_0_1 = m4_0_1 := by have h1 := o2_0_1.1; have h2 := o4_0_1.1; omega
  have ls0 : w2.heap.size < w4.heap.size := bs0.out.lt
  have es0_0 : w4.cell? ⟨w2.heap.size, 0, none⟩ = some (.slice B2_0_0 m2_0_0 d2_0_0) := bs0.out.cell 0
  have es0_1 : w4.cell? ⟨w2.heap.size, 1, none⟩ = some (.int .i64 0) := bs0.out.cell 1
  have es0_2 : w4.cell? ⟨w2.heap.size, 2, none⟩ = some (.slice B2_0_1 m2_0_1 d2_0_1) := bs0.out.cell 2
  go_wp2_with fail
  refine (eqVersions_same _ _ _ _ _ _ _ _ _ _ _ _ _ _ _ (ownSl (own_ext o4_0_0 ((Ext.refl' w4).al _))) (by omega) _ (ownSl (own_ext o4_0_1 ((Ext.refl' w4).al _))) (by omega) _ (ownSl (own_ext o2_0_0 ((Ext.refl' w4).al _))) _ (ownSl (own_ext o2_0_1 ((Ext.refl' w4).al _)))).mono ?_
  rintro e w5 ⟨rfl, x5⟩
  clear ls0 es0_0 es0_1 es0_2
  replace bs0 := Lib.hid (bs0.out.ext (Ext.tr ((Ext.refl' w4).al _) x5))
  have bg0 : Hid (Bx w5 (w4.heap.size) 25 #[.slice B4_0_0 m2_0_0 d4_0_0, .int .i64 0, .slice B4_0_1 m2_0_1 d4_0_1]) := Bx.ext (Bx.new' _ _ _ rfl) x5
  have zw5 : w4.heap.size + 1 ≤ w5.heap.size := by have h := x5.size; (try simp at h); omega
  replace x5 := Ext.tr ((Ext.refl' w4).al _) x5
  replace o2_0_0 := own_ext o2_0_0 x5
  replace o2_0_1 := own_ext o2_0_1 x5
  replace o3_0 := own_ext o3_0 x5
  replace o4_0_0 := own_ext o4_0_0 x5
  replace o4_0_1 := own_ext o4_0_1 x5
  replace xx := xx.tr x5
  replace hs0 := hsO0.ext xx
  clear x5
  go_wp2_with fail
  refine (toIntS_any _ _ _ _ _ _ hs0 hN0).mono ?_
  rintro e w6 ⟨B6_0, d6_0, rfl, o6_0, x6⟩
  replace bs0 := Lib.hid (bs0.out.ext (Ext.tr (Ext.refl' w5) x6))
  replace bg0 := Lib.hid (bg0.out.ext (Ext.tr (Ext.refl' w5) x6))
  have zw6 : w5.heap.size + 0 ≤ w6.heap.size := by have h := x6.size; (try simp at h); omega
  replace o2_0_0 := own_ext o2_0_0 x6
  replace o2_0_1 := own_ext o2_0_1 x6
  replace o3_0 := own_ext o3_0 x6
  replace o4_0_0 := own_ext o4_0_0 x6
  replace o4_0_1 := own_ext o4_0_1 x6
  replace xx := xx.tr x6
  replace hs0 := hsO0.ext xx
  clear x6
  have r6_0 : Hid (∀ g, (Value.slice B6_0 n0 d6_0).ownBlock = some g → w5.heap.size + 0 ≤ g ∧ g < w6.heap.size) := fun g hg => by have h := o6_0.lt g hg; (try simp only [World.heap_alloc_size] at h); omega
  go_wp2_with fail
  refine (eqIntS_same _ _ _ _ _ _ _ _ _ (ownSl o3_0) (ownSl o6_0) (by omega)).mono ?_
  rintro e w7 ⟨rfl, x7⟩
  replace bs0 := Lib.hid (bs0.out.ext (Ext.tr (Ext.refl' w6) x7))
  replace bg0 := Lib.hid (bg0.out.ext (Ext.tr (Ext.refl' w6) x7))
  have zw7 : w6.heap.size + 0 ≤ w7.heap.size := by have h := x7.size; (try simp at h); omega
  replace o2_0_0 := own_ext o2_0_0 x7
  replace o2_0_1 := own_ext o2_0_1 x7
  replace o3_0 := own_ext o3_0 x7
  replace o4_0_0 := own_ext o4_0_0 x7
  replace o4_0_1 := own_ext o4_0_1 x7
  replace o6_0 := own_ext o6_0 x7
  replace xx := xx.tr x7
  replace hs0 := hsO0.ext xx
  clear x7
  clear o6_0
  go_wp2_with fail
  refine (markIntS_any _ _ _ _ _ (1) _ o3_0 (by omega) (by omega)).mono ?_
  rintro e w8 ⟨rfl, o8_0, cc⟩
  have n_b : Hid (Bx w8 (w2.heap.size) 25 #[.slice B2_0_0 m2_0_0 d2_0_0, .int .i64 0, .slice B2_0_1 m2_0_1 d2_0_1]) := Bx.chg (bs0.out) cc (fun qq => by have h2 := r3_0.out _ qq; skip; omega)
  clear bs0
  have bs0 := n_b
  clear n_b
  have n_b : Hid (Bx w8 (w4.heap.size) 25 #[.slice B4_0_0 m2_0_0 d4_0_0, .int .i64 0, .slice B4_0_1 m2_0_1 d4_0_1]) := Bx.chg (bg0.out) cc (fun qq => by have h2 := r3_0.out _ qq; skip; omega)
  clear bg0
  have bg0 := n_b
  clear n_b
  have zw8 : w7.heap.size + 0 ≤ w8.heap.size := by have h := cc.size; (try simp at h); omega
  replace o2_0_0 := own_chg o2_0_0 cc (fun g hg qq => by have h2 := r3_0.out _ qq; have h1 := r2_0_0.out g hg; omega)
  replace o2_0_1 := own_chg o2_0_1 cc (fun g hg qq => by have h2 := r3_0.out _ qq; have h1 := r2_0_1.out g hg; omega)
  replace o4_0_0 := own_chg o4_0_0 cc (fun g hg qq => by have h2 := r3_0.out _ qq; have h1 := r4_0_0.out g hg; omega)
  replace o4_0_1 := own_chg o4_0_1 cc (fun g hg qq => by have h2 := r3_0.out _ qq; have h1 := r4_0_1.out g hg; omega)
  replace xx := cc.ext xx (fun g qq => by have h2 := r3_0.out _ qq; skip; omega)
  replace hs0 := hsO0.ext xx
  clear cc
  clear o3_0
  have r8_0 := r3_0
  clear o8_0
  have hq1 : (0 : Int) ≤ 1 + (n0 : Int) := by omega
  have eg0_0 : w8.cell? ⟨w4.heap.size, 0, none⟩ = some (.slice B4_0_0 m2_0_0 d4_0_0) := bg0.out.cell 0
  have eg0_1 : w8.cell? ⟨w4.heap.size, 1, none⟩ = some (.int .i64 0) := bg0.out.cell 1
  have eg0_2 : w8.cell? ⟨w4.heap.size, 2, none⟩ = some (.slice B4_0_1 m2_0_1 d4_0_1) := bg0.out.cell 2
  have es0_0 : w8.cell? ⟨w2.heap.size, 0, none⟩ = some (.slice B2_0_0 m2_0_0 d2_0_0) := bs0.out.cell 0
  have es0_1 : w8.cell? ⟨w2.heap.size, 1, none⟩ = some (.int .i64 0) := bs0.out.cell 1
  have es0_2 : w8.cell? ⟨w2.heap.size, 2, none⟩ = some (.slice B2_0_1 m2_0_1 d2_0_1) := bs0.out.cell 2
  go_wp2_with fail
  refine (eqVersions_same _ _ _ _ _ _ _ _ _ _ _ _ _ _ _ (ownSl o4_0_0) (by omega) _ (ownSl o4_0_1) (by omega) _ (ownSl o2_0_0) _ (ownSl o2_0_1)).mono ?_
  rintro e w9 ⟨rfl, x9⟩
  clear eg0_0 eg0_1 eg0_2 es0_0 es0_1 es0_2
  replace bs0 := Lib.hid (bs0.out.ext (Ext.tr (Ext.refl' w8) x9))
  replace bg0 := Lib.hid (bg0.out.ext (Ext.tr (Ext.refl' w8) x9))
  have zw9 : w8.heap.size + 0 ≤ w9.heap.size := by have h := x9.size; (try simp at h); omega
  replace o2_0_0 := own_ext o2_0_0 x9
  replace o2_0_1 := own_ext o2_0_1 x9
  replace o4_0_0 := own_ext o4_0_0 x9
  replace o4_0_1 := own_ext o4_0_1 x9
  replace xx := xx.tr x9
  replace hs0 := hsO0.ext xx
  clear x9
  have eg0_0 : w9.cell? ⟨w4.heap.size, 0, none⟩ = some (.slice B4_0_0 m2_0_0 d4_0_0) := bg0.out.cell 0
  have eg0_1 : w9.cell? ⟨w4.heap.size, 1, none⟩ = some (.int .i64 0) := bg0.out.cell 1
  have eg0_2 : w9.cell? ⟨w4.heap.size, 2, none⟩ = some (.slice B4_0_1 m2_0_1 d4_0_1) := bg0.out.cell 2
  go_wp2_with fail
  refine (markVersions_any _ _ _ _ _ _ _ _ _ _ (1) _ (own_base o4_0_0 (Nat.zero_le _)) (own_base o4_0_1 (Nat.zero_le _)) ap4_0 (by omega) (by omega)).mono ?_
  rintro e w10 ⟨rfl, o10_0, o10_1, cc⟩
  clear eg0_0 eg0_1 eg0_2
  have n_b : Hid (Bx w10 (w2.heap.size) 25 #[.slice B2_0_0 m2_0_0 d2_0_0, .int .i64 0, .slice B2_0_1 m2_0_1 d2_0_1]) := Bx.chg (bs0.out) cc (fun qq => by (rcases qq with qq | qq <;> first | (have h2 := r4_0_0.out _ qq; skip; omega) | (have h2 := r4_0_1.out _ qq; skip; omega)))
  clear bs0
  have bs0 := n_b
  clear n_b
  have n_b : Hid (Bx w10 (w4.heap.size) 25 #[.slice B4_0_0 m2_0_0 d4_0_0, .int .i64 0, .slice B4_0_1 m2_0_1 d4_0_1]) := Bx.chg (bg0.out) cc (fun qq => by (rcases qq with qq | qq <;> first | (have h2 := r4_0_0.out _ qq; skip; omega) | (have h2 := r4_0_1.out _ qq; skip; omega)))
  clear bg0
  have bg0 := n_b
  clear n_b
  have zw10 : w9.heap.size + 0 ≤ w10.heap.size := by have h := cc.size; (try simp at h); omega
  replace o2_0_0 := own_chg o2_0_0 cc (fun g hg qq => by (rcases qq with qq | qq <;> first | (have h2 := r4_0_0.out _ qq; have h1 := r2_0_0.out g hg; omega) | (have h2 := r4_0_1.out _ qq; have h1 := r2_0_0.out g hg; omega)))
  replace o2_0_1 := own_chg o2_0_1 cc (fun g hg qq => by (rcases qq with qq | qq <;> first | (have h2 := r4_0_0.out _ qq; have h1 := r2_0_1.out g hg; omega) | (have h2 := r4_0_1.out _ qq; have h1 := r2_0_1.out g hg; omega)))
  replace xx := cc.ext xx (fun g qq => by (rcases qq with qq | qq <;> first | (have h2 := r4_0_0.out _ qq; skip; omega) | (have h2 := r4_0_1.out _ qq; skip; omega)))
  replace hs0 := hsO0.ext xx
  clear cc
  clear o4_0_0
  have r10_0 := r4_0_0
  clear o4_0_1
  have r10_1 := r4_0_1
  have hq2_0 : (0 : Int) ≤ 1 + (m2_0_0 : Int) + (m2_0_1 : Int) * 3 := by omega
  have hq3 : ((1 + (m2_0_0 : Int) + (m2_0_1 : Int) * 3) != (1 + (m2_0_0 : Int) + (m2_0_1 : Int) * 3)) = false := by simp
  have eg0_0 : w10.cell? ⟨w4.heap.size, 0, none⟩ = some (.slice B4_0_0 m2_0_0 d4_0_0) := bg0.out.cell 0
  have eg0_1 : w10.cell? ⟨w4.heap.size, 1, none⟩ = some (.int .i64 0) := bg0.out.cell 1
  have eg0_2 : w10.cell? ⟨w4.heap.size, 2, none⟩ = some (.slice B4_0_1 m2_0_1 d4_0_1) := bg0.out.cell 2
  go_wp2_with fail
  refine (heldVersions_any _ _ _ _ _ _ _ (1) _ _ (ownSl o10_0) _ (ownSl o10_1) (by omega) (by omega)).mono ?_
  rintro e w11 ⟨rfl, x11⟩
  clear eg0_0 eg0_1 eg0_2
  replace bs0 := Lib.hid (bs0.out.ext (Ext.tr (Ext.refl' w10) x11))
  replace bg0 := Lib.hid (bg0.out.ext (Ext.tr (Ext.refl' w10) x11))
  have zw11 : w10.heap.size + 0 ≤ w11.heap.size := by have h := x11.size; (try simp at h); omega
  replace o2_0_0 := own_ext o2_0_0 x11
  replace o2_0_1 := own_ext o2_0_1 x11
  replace o10_0 := own_ext o10_0 x11
  replace o10_1 := own_ext o10_1 x11
  replace xx := xx.tr x11
  replace hs0 := hsO0.ext xx
  clear x11
  go_wp2_with fail
  refine (toIntS_any _ _ _ _ _ _ hs0 hN0).mono ?_
  rintro e w12 ⟨B12_0, d12_0, rfl, o12_0, x12⟩
  replace bs0 := Lib.hid (bs0.out.ext (Ext.tr (Ext.refl' w11) x12))
  replace bg0 := Lib.hid (bg0.out.ext (Ext.tr (Ext.refl' w11) x12))
  have zw12 : w11.heap.size + 0 ≤ w12.heap.size := by have h := x12.size; (try simp at h); omega
  replace o2_0_0 := own_ext o2_0_0 x12
  replace o2_0_1 := own_ext o2_0_1 x12
  replace o10_0 := own_ext o10_0 x12
  replace o10_1 := own_ext o10_1 x12
  replace xx := xx.tr x12
  replace hs0 := hsO0.ext xx
  clear x12
  have r12_0 : Hid (∀ g, (Value.slice B12_0 n0 d12_0).ownBlock = some g → w11.heap.size + 0 ≤ g ∧ g < w12.heap.size) := fun g hg => by have h := o12_0.lt g hg; (try simp only [World.heap_alloc_size] at h); omega
  go_wp2_with fail
  refine (impl_VersNew _ _ _ _ _ _ (ownSl o12_0) hN0).mono ?_
  rintro e w13 ⟨B13_0_0, m13_0_0, d13_0_0, B13_0_1, m13_0_1, d13_0_1, rfl, o13_0_0, o13_0_1, ap13_0, x13⟩
  replace bs0 := Lib.hid (bs0.out.ext (Ext.tr (Ext.refl' w12) x13))
  replace bg0 := Lib.hid (bg0.out.ext (Ext.tr (Ext.refl' w12) x13))
  have zw13 : w12.heap.size + 0 ≤ w13.heap.size := by have h := x13.size; (try simp at h); omega
  replace o2_0_0 := own_ext o2_0_0 x13
  replace o2_0_1 := own_ext o2_0_1 x13
  replace o10_0 := own_ext o10_0 x13
  replace o10_1 := own_ext o10_1 x13
  replace o12_0 := own_ext o12_0 x13
  replace xx := xx.tr x13
  replace hs0 := hsO0.ext xx
  clear x13
  have r13_0_0 : Hid (∀ g, (Value.slice B13_0_0 m13_0_0 d13_0_0).ownBlock = some g → w12.heap.size + 0 ≤ g ∧ g < w13.heap.size) := fun g hg => by have h := o13_0_0.lt g hg; (try simp only [World.heap_alloc_size] at h); omega
  have r13_0_1 : Hid (∀ g, (Value.slice B13_0_1 m13_0_1 d13_0_1).ownBlock = some g → w12.heap.size + 0 ≤ g ∧ g < w13.heap.size) := fun g hg => by have h := o13_0_1.lt g hg; (try simp only [World.heap_alloc_size] at h); omega
  clear o12_0
  obtain rfl : m2_0_0 = m13_0_0 := by have h1 := o2_0_0.1; have h2 := o13_0_0.1; omega
  obtain rfl : m2_0_1 = m13_0_1 := by have h1 := o2_0_1.1; have h2 := o13_0_1.1; omega
  have ls0 : w2.heap.size < w13.heap.size := bs0.out.lt
  have es0_0 : w13.cell? ⟨w2.heap.size, 0, none⟩ = some (.slice B2_0_0 m2_0_0 d2_0_0) := bs0.out.cell 0
  have es0_1 : w13.cell? ⟨w2.heap.size, 1, none⟩ = some (.int .i64 0) := bs0.out.cell 1
  have es0_2 : w13.cell? ⟨w2.heap.size, 2, none⟩ = some (.slice B2_0_1 m2_0_1 d2_0_1) := bs0.out.cell 2
  go_wp2_with fail
  refine (eqVersions_same _ _ _ _ _ _ _ _ _ _ _ _ _ _ _ (ownSl (own_ext o13_0_0 ((Ext.refl' w13).al _))) (by omega) _ (ownSl (own_ext o13_0_1 ((Ext.refl' w13).al _))) (by omega) _ (ownSl (own_ext o2_0_0 ((Ext.refl' w13).al _))) _ (ownSl (own_ext o2_0_1 ((Ext.refl' w13).al _)))).mono ?_
  rintro e w14 ⟨rfl, x14⟩
  clear ls0 es0_0 es0_1 es0_2
  replace bs0 := Lib.hid (bs0.out.ext (Ext.tr ((Ext.refl' w13).al _) x14))
  replace bg0 := Lib.hid (bg0.out.ext (Ext.tr ((Ext.refl' w13).al _) x14))
  have bh0 : Hid (Bx w14 (w13.heap.size) 25 #[.slice B13_0_0 m2_0_0 d13_0_0, .int .i64 0, .slice B13_0_1 m2_0_1 d13_0_1]) := Bx.ext (Bx.new' _ _ _ rfl) x14
  have zw14 : w13.heap.size + 1 ≤ w14.heap.size := by have h := x14.size; (try simp at h); omega
  replace x14 := Ext.tr ((Ext.refl' w13).al _) x14
  replace o2_0_0 := own_ext o2_0_0 x14
  replace o2_0_1 := own_ext o2_0_1 x14
  replace o10_0 := own_ext o10_0 x14
  replace o10_1 := own_ext o10_1 x14
  replace o13_0_0 := own_ext o13_0_0 x14
  replace o13_0_1 := own_ext o13_0_1 x14
  replace xx := xx.tr x14
  replace hs0 := hsO0.ext xx
  clear x14
  have eg0_0 : w14.cell? ⟨w4.heap.size, 0, none⟩ = some (.slice B4_0_0 m2_0_0 d4_0_0) := bg0.out.cell 0
  have eg0_1 : w14.cell? ⟨w4.heap.size, 1, none⟩ = some (.int .i64 0) := bg0.out.cell 1
  have eg0_2 : w14.cell? ⟨w4.heap.size, 2, none⟩ = some (.slice B4_0_1 m2_0_1 d4_0_1) := bg0.out.cell 2
  go_wp2_with fail
  refine (heldVersions_any _ _ _ _ _ _ _ (1) _ _ (ownSl o10_0) _ (ownSl o10_1) (by omega) (by omega)).mono ?_
  rintro e w15 ⟨rfl, x15⟩
  clear eg0_0 eg0_1 eg0_2
  replace bs0 := Lib.hid (bs0.out.ext (Ext.tr (Ext.refl' w14) x15))
  replace bg0 := Lib.hid (bg0.out.ext (Ext.tr (Ext.refl' w14) x15))
  replace bh0 := Lib.hid (bh0.out.ext (Ext.tr (Ext.refl' w14) x15))
  have zw15 : w14.heap.size + 0 ≤ w15.heap.size := by have h := x15.size; (try simp at h); omega
  replace o2_0_0 := own_ext o2_0_0 x15
  replace o2_0_1 := own_ext o2_0_1 x15
  replace o10_0 := own_ext o10_0 x15
  replace o10_1 := own_ext o10_1 x15
  replace o13_0_0 := own_ext o13_0_0 x15
  replace o13_0_1 := own_ext o13_0_1 x15
  replace xx := xx.tr x15
  replace hs0 := hsO0.ext xx
  clear x15
  go_wp2
  go_ret
  exact ⟨rfl, xx⟩
end Go.Proofs.Ytnhkjgnfjphllaa
