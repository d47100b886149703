/- The contract of laws.FnExactLineEnds. No condition. -/
import Derived.Test.YtcnkmbofpppfaaaLineE
namespace Go.Proofs.Ytcnkmbofpppfaaa
open Go.RowKit Go.Deep

set_option maxHeartbeats 8000000 in
theorem law_LineEnds (y0 : Int) (A1 : Option Addr) (n1 c1 : Nat) (l1 : List Call) (w : World) (hs1 : Sl w (fun _ => True) 5 A1 n1 (l1.flatMap Call.cells)) (hm1 : n1 ≤ 9223372036854775807) :
    Calls Try.prog 8 #[.int .i64 y0, .slice A1 n1 c1] w fun e w' => e = .returned (.bool true) ∧ Ext w w' := by
  have hsO1 := hs1
  by_cases hz0 : (n1 : Int) ≤ (1048576 : Int)
  rotate_left
  · go_enter Try.func8, Try.ntmps8
    go_wp2_with fail
    refine (szCallS_any _ _ _ ((1048576 : Int)) _ (by omega) (by omega) hm1).mono ?_
    rintro e w' ⟨rfl, rfl⟩
    rw [if_neg (by omega)]
    go_wp2
    go_ret
    exact ⟨rfl, (Ext.refl' w)⟩
  have hN1 : n1 ≤ 1048576 := by omega
  go_enter Try.func8, Try.ntmps8
  go_wp2_with fail
  refine (szCallS_any _ _ _ ((1048576 : Int)) _ (by omega) (by omega) hm1).mono ?_
  rintro e w' ⟨rfl, rfl⟩
  rw [if_pos (by omega)]
  go_wp2_with fail
  refine (toCallS_any _ _ _ _ _ _ hs1 hN1).mono ?_
  rintro e w1 ⟨B1_0, d1_0, rfl, o1_0, x1⟩
  have zw1 : w.heap.size + 0 ≤ w1.heap.size := by have h := x1.size; (try simp at h); omega
  have xx := x1
  replace hs1 := hsO1.ext xx
  clear x1
  have r1_0 : Hid (∀ g, (Value.slice B1_0 n1 d1_0).ownBlock = some g → w.heap.size + 0 ≤ g ∧ g < w1.heap.size) := fun g hg => by have h := o1_0.lt g hg; (try simp only [World.heap_alloc_size] at h); omega
  go_wp2_with fail
  refine (spec_LineEnds _ _ _ _ _ _ _ (ownSl o1_0) hN1).mono ?_
  rintro e w2 ⟨B2_0_0, m2_0_0, d2_0_0, rfl, o2_0_0, x2⟩
  have zw2 : w1.heap.size + 0 ≤ w2.heap.size := by have h := x2.size; (try simp at h); omega
  replace o1_0 := own_ext o1_0 x2
  replace xx := xx.tr x2
  replace hs1 := hsO1.ext xx
  clear x2
  have r2_0_0 : Hid (∀ g, (Value.slice B2_0_0 m2_0_0 d2_0_0).ownBlock = some g → w1.heap.size + 0 ≤ g ∧ g < w2.heap.size) := fun g hg => by have h := o2_0_0.lt g hg; (try simp only [World.heap_alloc_size] at h); omega
  clear o1_0
  have bd0_0 : m2_0_0 ≤ 1048576 := by have h1 := (o2_0_0).1; rw [ints_length] at h1; have h2 := lineE_len y0 l1; omega
  go_wp2_with fail
  refine (toCallS_any _ _ _ _ _ _ hs1 hN1).mono ?_
  rintro e w3 ⟨B3_0, d3_0, rfl, o3_0, x3⟩
  have zw3 : w2.heap.size + 0 ≤ w3.heap.size := by have h := x3.size; (try simp at h); omega
  replace o2_0_0 := own_ext o2_0_0 x3
  replace xx := xx.tr x3
  replace hs1 := hsO1.ext xx
  clear x3
  have r3_0 : Hid (∀ g, (Value.slice B3_0 n1 d3_0).ownBlock = some g → w2.heap.size + 0 ≤ g ∧ g < w3.heap.size) := fun g hg => by have h := o3_0.lt g hg; (try simp only [World.heap_alloc_size] at h); omega
  go_wp2_with fail
  refine (impl_LineEnds _ _ _ _ _ _ _ (ownSl o3_0) hN1).mono ?_
  rintro e w4 ⟨B4_0_0, m4_0_0, d4_0_0, rfl, o4_0_0, x4⟩
  have zw4 : w3.heap.size + 0 ≤ w4.heap.size := by have h := x4.size; (try simp at h); omega
  replace o2_0_0 := own_ext o2_0_0 x4
  replace o3_0 := own_ext o3_0 x4
  replace xx := xx.tr x4
  replace hs1 := hsO1.ext xx
  clear x4
  have r4_0_0 : Hid (∀ g, (Value.slice B4_0_0 m4_0_0 d4_0_0).ownBlock = some g → w3.heap.size + 0 ≤ g ∧ g < w4.heap.size) := fun g hg => by have h := o4_0_0.lt g hg; (try simp only [World.heap_alloc_size] at h); omega
  obtain rfl : m2_0_0 = m4_0_0 := by have h1 := o2_0_0.1; have h2 := o4_0_0.1; omega
  go_wp2_with fail
  refine (eqIntS_same _ _ _ _ _ _ _ _ _ (ownSl o4_0_0) (ownSl o2_0_0) (by omega)).mono ?_
  rintro e w5 ⟨rfl, x5⟩
  have zw5 : w4.heap.size + 0 ≤ w5.heap.size := by have h := x5.size; (try simp at h); omega
  replace o2_0_0 := own_ext o2_0_0 x5
  replace o3_0 := own_ext o3_0 x5
  replace o4_0_0 := own_ext o4_0_0 x5
  replace xx := xx.tr x5
  replace hs1 := hsO1.ext xx
  clear x5
  go_wp2_with fail
  refine (toCallS_any _ _ _ _ _ _ hs1 hN1).mono ?_
  rintro e w6 ⟨B6_0, d6_0, rfl, o6_0, x6⟩
  have zw6 : w5.heap.size + 0 ≤ w6.heap.size := by have h := x6.size; (try simp at h); omega
  replace o2_0_0 := own_ext o2_0_0 x6
  replace o3_0 := own_ext o3_0 x6
  replace o4_0_0 := own_ext o4_0_0 x6
  replace xx := xx.tr x6
  replace hs1 := hsO1.ext xx
  clear x6
  have r6_0 : Hid (∀ g, (Value.slice B6_0 n1 d6_0).ownBlock = some g → w5.heap.size + 0 ≤ g ∧ g < w6.heap.size) := fun g hg => by have h := o6_0.lt g hg; (try simp only [World.heap_alloc_size] at h); omega
  go_wp2_with fail
  refine (eqCallS_same _ _ _ _ _ _ _ _ _ (ownSl o3_0) (ownSl o6_0) (by omega)).mono ?_
  rintro e w7 ⟨rfl, x7⟩
  have zw7 : w6.heap.size + 0 ≤ w7.heap.size := by have h := x7.size; (try simp at h); omega
  replace o2_0_0 := own_ext o2_0_0 x7
  replace o3_0 := own_ext o3_0 x7
  replace o4_0_0 := own_ext o4_0_0 x7
  replace o6_0 := own_ext o6_0 x7
  replace xx := xx.tr x7
  replace hs1 := hsO1.ext xx
  clear x7
  clear o6_0
  go_wp2_with fail
  refine (markCallS_any _ _ _ _ _ (1) _ o3_0 (by omega) (by omega)).mono ?_
  rintro e w8 ⟨rfl, o8_0, cc⟩
  have zw8 : w7.heap.size + 0 ≤ w8.heap.size := by have h := cc.size; (try simp at h); omega
  replace o2_0_0 := own_chg o2_0_0 cc (fun g hg qq => by have h2 := r3_0.out _ qq; have h1 := r2_0_0.out g hg; omega)
  replace o4_0_0 := own_chg o4_0_0 cc (fun g hg qq => by have h2 := r3_0.out _ qq; have h1 := r4_0_0.out g hg; omega)
  replace xx := cc.ext xx (fun g qq => by have h2 := r3_0.out _ qq; skip; omega)
  replace hs1 := hsO1.ext xx
  clear cc
  clear o3_0
  have r8_0 := r3_0
  clear o8_0
  have hq1 : (0 : Int) ≤ 1 + (n1 : Int) * 5 := by omega
  go_wp2_with fail
  refine (eqIntS_same _ _ _ _ _ _ _ _ _ (ownSl o4_0_0) (ownSl o2_0_0) (by omega)).mono ?_
  rintro e w9 ⟨rfl, x9⟩
  have zw9 : w8.heap.size + 0 ≤ w9.heap.size := by have h := x9.size; (try simp at h); omega
  replace o2_0_0 := own_ext o2_0_0 x9
  replace o4_0_0 := own_ext o4_0_0 x9
  replace xx := xx.tr x9
  replace hs1 := hsO1.ext xx
  clear x9
  go_wp2_with fail
  refine (markIntS_any _ _ _ _ _ (1) _ o4_0_0 (by omega) (by omega)).mono ?_
  rintro e w10 ⟨rfl, o10_0, cc⟩
  have zw10 : w9.heap.size + 0 ≤ w10.heap.size := by have h := cc.size; (try simp at h); omega
  replace o2_0_0 := own_chg o2_0_0 cc (fun g hg qq => by have h2 := r4_0_0.out _ qq; have h1 := r2_0_0.out g hg; omega)
  replace xx := cc.ext xx (fun g qq => by have h2 := r4_0_0.out _ qq; skip; omega)
  replace hs1 := hsO1.ext xx
  clear cc
  clear o4_0_0
  have r10_0 := r4_0_0
  have hq2_0 : (0 : Int) ≤ 1 + (m2_0_0 : Int) := by omega
  have hq3 : ((1 + (m2_0_0 : Int)) != (1 + (m2_0_0 : Int))) = false := by simp
  go_wp2_with fail
  refine (heldIntS_any _ _ _ (1) _ _ (ownSl o10_0) (by omega) (by omega)).mono ?_
  rintro e w11 ⟨rfl, hx11⟩
  have x11 := Ext.of_eq hx11
  clear hx11
  have zw11 : w10.heap.size + 0 ≤ w11.heap.size := by have h := x11.size; (try simp at h); omega
  replace o2_0_0 := own_ext o2_0_0 x11
  replace o10_0 := own_ext o10_0 x11
  replace xx := xx.tr x11
  replace hs1 := hsO1.ext xx
  clear x11
  go_wp2_with fail
  refine (toCallS_any _ _ _ _ _ _ hs1 hN1).mono ?_
  rintro e w12 ⟨B12_0, d12_0, rfl, o12_0, x12⟩
  have zw12 : w11.heap.size + 0 ≤ w12.heap.size := by have h := x12.size; (try simp at h); omega
  replace o2_0_0 := own_ext o2_0_0 x12
  replace o10_0 := own_ext o10_0 x12
  replace xx := xx.tr x12
  replace hs1 := hsO1.ext xx
  clear x12
  have r12_0 : Hid (∀ g, (Value.slice B12_0 n1 d12_0).ownBlock = some g → w11.heap.size + 0 ≤ g ∧ g < w12.heap.size) := fun g hg => by have h := o12_0.lt g hg; (try simp only [World.heap_alloc_size] at h); omega
  go_wp2_with fail
  refine (impl_LineEnds _ _ _ _ _ _ _ (ownSl o12_0) hN1).mono ?_
  rintro e w13 ⟨B13_0_0, m13_0_0, d13_0_0, rfl, o13_0_0, x13⟩
  have zw13 : w12.heap.size + 0 ≤ w13.heap.size := by have h := x13.size; (try simp at h); omega
  replace o2_0_0 := own_ext o2_0_0 x13
  replace o10_0 := own_ext o10_0 x13
  replace o12_0 := own_ext o12_0 x13
  replace xx := xx.tr x13
  replace hs1 := hsO1.ext xx
  clear x13
  have r13_0_0 : Hid (∀ g, (Value.slice B13_0_0 m13_0_0 d13_0_0).ownBlock = some g → w12.heap.size + 0 ≤ g ∧ g < w13.heap.size) := fun g hg => by have h := o13_0_0.lt g hg; (try simp only [World.heap_alloc_size] at h); omega
  clear o12_0
  obtain rfl : m2_0_0 = m13_0_0 := by have h1 := o2_0_0.1; have h2 := o13_0_0.1; omega
  go_wp2_with fail
  refine (eqIntS_same _ _ _ _ _ _ _ _ _ (ownSl o13_0_0) (ownSl o2_0_0) (by omega)).mono ?_
  rintro e w14 ⟨rfl, x14⟩
  have zw14 : w13.heap.size + 0 ≤ w14.heap.size := by have h := x14.size; (try simp at h); omega
  replace o2_0_0 := own_ext o2_0_0 x14
  replace o10_0 := own_ext o10_0 x14
  replace o13_0_0 := own_ext o13_0_0 x14
  replace xx := xx.tr x14
  replace hs1 := hsO1.ext xx
  clear x14
  go_wp2_with fail
  refine (heldIntS_any _ _ _ (1) _ _ (ownSl o10_0) (by omega) (by omega)).mono ?_
  rintro e w15 ⟨rfl, hx15⟩
  have x15 := Ext.of_eq hx15
  clear hx15
  have zw15 : w14.heap.size + 0 ≤ w15.heap.size := by have h := x15.size; (try simp at h); omega
  replace o2_0_0 := own_ext o2_0_0 x15
  replace o10_0 := own_ext o10_0 x15
  replace o13_0_0 := own_ext o13_0_0 x15
  replace xx := xx.tr x15
  replace hs1 := hsO1.ext xx
  clear x15
  go_wp2
  go_ret
  exact ⟨rfl, xx⟩
end Go.Proofs.Ytcnkmbofpppfaaa
