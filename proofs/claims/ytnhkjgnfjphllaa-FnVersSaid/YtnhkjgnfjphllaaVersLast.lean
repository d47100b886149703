/- VersLast of program and reference; the contract of laws.FnExactVersLast. No condition. -/
import Derived.Test.YtnhkjgnfjphllaaVersOk
namespace Go.Proofs.Ytnhkjgnfjphllaa
open Go.RowKit Go.Deep

def lastTo (f : Int) (l : List Ver) (k : Nat) : Int := (l.take k).foldl (fun m x => max m x.stamp) f
theorem lastTo_succ {f : Int} {l : List Ver} {k : Nat} {x : Ver} (h : l[k]? = some x) : lastTo f l (k + 1) = max (lastTo f l k) x.stamp := by
  unfold lastTo
  rw [List.take_add_one, h]
  simp [List.foldl_append]
theorem ite_max (a b : Int) : (if a < b then b else a) = max a b := by split <;> omega
noncomputable def versLast (base : List Int) (f : Int) (l : List Ver) : Int := if versOk base f l = true then lastTo f l l.length else 0


set_option maxHeartbeats 4000000 in
theorem spec_VersLast (f1 : Int) (A0 : Option Addr) (n0 c0 : Nat) (l0 : List Int) (A1 : Option Addr) (n1 c1 : Nat) (l1 : List Ver) (w : World)
    (S0 : Nat → Prop) (hs0 : Sl w S0 1 A0 n0 (ints l0)) (hm0 : n0 ≤ 1048576) (S1 : Nat → Prop) (hs1 : Sl w S1 3 A1 n1 (l1.flatMap Ver.cells)) (hm1 : n1 ≤ 1048576) :
    Calls Try.prog 23 #[.agg #[.slice A0 n0 c0, .int .i64 f1, .slice A1 n1 c1]] w fun e w' => e = .returned (.int .i64 (versLast l0 f1 l1)) ∧ Ext w w' := by
  have H := Lib.hid (hs1.flen Ver.cells_length (by omega))
  have HX0 := Lib.hid ((Ext.refl' w).al (.cells #[.slice A0 n0 c0, .int .i64 f1, .slice A1 n1 c1] 25))
  have HB0 : Hid (Bx (w.alloc (.cells #[.slice A0 n0 c0, .int .i64 f1, .slice A1 n1 c1] 25)) w.heap.size 25 #[.slice A0 n0 c0, .int .i64 f1, .slice A1 n1 c1]) := Bx.new' _ _ _ rfl
  have HS := Lib.hid hs1
  cases hv : versOk l0 f1 l1
  · go_enter Try.func23, Try.ntmps23
    go_wp2_with fail
    refine (spec_VersOk _ _ _ _ l0 _ _ _ l1 _ S0 (hs0.ext HX0.out) hm0 S1 (HS.out.ext HX0.out) hm1).mono ?_
    rintro e w1 ⟨rfl, x1⟩
    have HN : Hid (versLast l0 f1 l1 = 0) := by unfold versLast; rw [hv]; rfl
    rw [hv]
    go_wp2
    go_ret
    exact ⟨by rw [HN.out]; rfl, HX0.out.tr x1⟩
  have HR : Hid (versLast l0 f1 l1 = lastTo f1 l1 l1.length) := by unfold versLast; rw [hv]; rfl
  go_enter Try.func23, Try.ntmps23
  go_wp2_with fail
  refine (spec_VersOk _ _ _ _ l0 _ _ _ l1 _ S0 (hs0.ext HX0.out) hm0 S1 (HS.out.ext HX0.out) hm1).mono ?_
  rintro e w1 ⟨rfl, x1⟩
  rw [hv]
  clear hv hs0 hs1
  have HB1 : Hid (Bx w1 w.heap.size 25 #[.slice A0 n0 c0, .int .i64 f1, .slice A1 n1 c1]) := HB0.out.ext x1
  have HX1 : Hid (Ext w w1) := HX0.out.tr x1
  have q0 : w1.cell? ⟨w.heap.size, 0, none⟩ = some (.slice A0 n0 c0) := HB1.out.cell 0
  have q1 : w1.cell? ⟨w.heap.size, 1, none⟩ = some (.int .i64 f1) := HB1.out.cell 1
  have q2 : w1.cell? ⟨w.heap.size, 2, none⟩ = some (.slice A1 n1 c1) := HB1.out.cell 2
  clear x1
  go_wp2
  go_loopw [3, 4] (fun m i wr => ∃ k : Nat, k ≤ n1 ∧ i = .int .i64 k ∧ m = .int .i64 (lastTo f1 l1 k) ∧ Ext w wr ∧ Hid (Bx wr w.heap.size 25 #[.slice A0 n0 c0, .int .i64 f1, .slice A1 n1 c1])) (fun _ i _ => n1 - (intOf i).toNat)
  case atStart => exact ⟨0, Nat.zero_le _, rfl, by simp [lastTo], HX1.out, HB1⟩
  case round =>
    obtain ⟨k, hk, rfl, rfl, hx, hbx⟩ := hrel
    have HX := Lib.hid hx
    have hsz : w.heap.size < wr.heap.size := hbx.out.lt
    have q1 : wr.cell? ⟨w.heap.size, 1, none⟩ = some (.int .i64 f1) := hbx.out.cell 1
    have q2 : wr.cell? ⟨w.heap.size, 2, none⟩ = some (.slice A1 n1 c1) := hbx.out.cell 2
    clear hx
    by_cases hlt : k < n1
    rotate_left
    · have e := Lib.hid (show k = l1.length by rw [H.out]; omega)
      go_wp2
      go_ret
      exact ⟨by rw [HR.out, ← e.out]; rfl, HX.out⟩
    obtain ⟨b, o, rfl⟩ := HS.out.addr (by omega)
    obtain ⟨s, hsk, hblt, hc⟩ := (HS.out.ext HX.out).flat_cell Ver.cells_length (by omega) hlt
    obtain ⟨g0, g1, g2⟩ := s
    have k0 := hc 0 (by omega)
    have k1 := hc 1 (by omega)
    have k2 := hc 2 (by omega)
    simp only [Ver.cells, List.getElem?_cons_zero, List.getElem?_cons_succ, Nat.add_zero] at k0 k1 k2
    have HSK := Lib.hid hsk
    clear hsk hc
    go_wp2
    go_roundw
    case rel => exact ⟨k + 1, by omega, by go_num, by rw [lastTo_succ HSK.out]; exact congrArg _ (ite_max _ _), HX.out, hbx⟩
    case measure => simp [intOf]; omega

set_option maxHeartbeats 4000000 in
theorem impl_VersLast (f1 : Int) (A0 : Option Addr) (n0 c0 : Nat) (l0 : List Int) (A1 : Option Addr) (n1 c1 : Nat) (l1 : List Ver) (w : World)
    (S0 : Nat → Prop) (hs0 : Sl w S0 1 A0 n0 (ints l0)) (hm0 : n0 ≤ 1048576) (S1 : Nat → Prop) (hs1 : Sl w S1 3 A1 n1 (l1.flatMap Ver.cells)) (hm1 : n1 ≤ 1048576) :
    Calls Try.prog 24 #[.agg #[.slice A0 n0 c0, .int .i64 f1, .slice A1 n1 c1]] w fun e w' => e = .returned (.int .i64 (versLast l0 f1 l1)) ∧ Ext w w' := by
  have H := Lib.hid (hs1.flen Ver.cells_length (by omega))
  have HX0 := Lib.hid ((Ext.refl' w).al (.cells #[.slice A0 n0 c0, .int .i64 f1, .slice A1 n1 c1] 25))
  have HB0 : Hid (Bx (w.alloc (.cells #[.slice A0 n0 c0, .int .i64 f1, .slice A1 n1 c1] 25)) w.heap.size 25 #[.slice A0 n0 c0, .int .i64 f1, .slice A1 n1 c1]) := Bx.new' _ _ _ rfl
  have HS := Lib.hid hs1
  cases hv : versOk l0 f1 l1
  · go_enter Try.func24, Try.ntmps24
    go_wp2_with fail
    refine (impl_VersOk _ _ _ _ l0 _ _ _ l1 _ S0 (hs0.ext HX0.out) hm0 S1 (HS.out.ext HX0.out) hm1).mono ?_
    rintro e w1 ⟨rfl, x1⟩
    have HN : Hid (versLast l0 f1 l1 = 0) := by unfold versLast; rw [hv]; rfl
    rw [hv]
    go_wp2
    go_ret
    exact ⟨by rw [HN.out]; rfl, HX0.out.tr x1⟩
  have HR : Hid (versLast l0 f1 l1 = lastTo f1 l1 l1.length) := by unfold versLast; rw [hv]; rfl
  go_enter Try.func24, Try.ntmps24
  go_wp2_with fail
  refine (impl_VersOk _ _ _ _ l0 _ _ _ l1 _ S0 (hs0.ext HX0.out) hm0 S1 (HS.out.ext HX0.out) hm1).mono ?_
  rintro e w1 ⟨rfl, x1⟩
  rw [hv]
  clear hv hs0 hs1
  have HB1 : Hid (Bx w1 w.heap.size 25 #[.slice A0 n0 c0, .int .i64 f1, .slice A1 n1 c1]) := HB0.out.ext x1
  have HX1 : Hid (Ext w w1) := HX0.out.tr x1
  have q0 : w1.cell? ⟨w.heap.size, 0, none⟩ = some (.slice A0 n0 c0) := HB1.out.cell 0
  have q1 : w1.cell? ⟨w.heap.size, 1, none⟩ = some (.int .i64 f1) := HB1.out.cell 1
  have q2 : w1.cell? ⟨w.heap.size, 2, none⟩ = some (.slice A1 n1 c1) := HB1.out.cell 2
  clear x1
  go_wp2
  go_loopw [3, 14] (fun m i wr => ∃ k : Nat, k ≤ n1 ∧ i = .int .i64 k ∧ m = .int .i64 (lastTo f1 l1 k) ∧ Ext w wr ∧ Hid (Bx wr w.heap.size 25 #[.slice A0 n0 c0, .int .i64 f1, .slice A1 n1 c1])) (fun _ i _ => n1 - (intOf i).toNat)
  case atStart => exact ⟨0, Nat.zero_le _, rfl, by simp [lastTo], HX1.out, HB1⟩
  case round =>
    obtain ⟨k, hk, rfl, rfl, hx, hbx⟩ := hrel
    have HX := Lib.hid hx
    have hsz : w.heap.size < wr.heap.size := hbx.out.lt
    have q1 : wr.cell? ⟨w.heap.size, 1, none⟩ = some (.int .i64 f1) := hbx.out.cell 1
    have q2 : wr.cell? ⟨w.heap.size, 2, none⟩ = some (.slice A1 n1 c1) := hbx.out.cell 2
    clear hx
    by_cases hlt : k < n1
    rotate_left
    · have e := Lib.hid (show k = l1.length by rw [H.out]; omega)
      go_wp2
      go_ret
      exact ⟨by rw [HR.out, ← e.out]; rfl, HX.out⟩
    obtain ⟨b, o, rfl⟩ := HS.out.addr (by omega)
    obtain ⟨s, hsk, hblt, hc⟩ := (HS.out.ext HX.out).flat_cell Ver.cells_length (by omega) hlt
    obtain ⟨g0, g1, g2⟩ := s
    have k0 := hc 0 (by omega)
    have k1 := hc 1 (by omega)
    have k2 := hc 2 (by omega)
    simp only [Ver.cells, List.getElem?_cons_zero, List.getElem?_cons_succ, Nat.add_zero] at k0 k1 k2
    have HSK := Lib.hid hsk
    clear hsk hc
    go_wp2
    go_roundw
    case rel => exact ⟨k + 1, by omega, by go_num, by rw [lastTo_succ HSK.out]; exact congrArg _ (ite_max _ _), HX.out.al _, hbx.out.al _⟩
    case measure => simp [intOf]; omega

set_option maxHeartbeats 8000000 in
theorem law_VersLast (f0_1 : Int) (A0_0 : Option Addr) (n0_0 c0_0 : Nat) (l0_0 : List Int) (A0_1 : Option Addr) (n0_1 c0_1 : Nat) (l0_1 : List Ver) (w : World) (hs0_0 : Sl w (fun _ => True) 1 A0_0 n0_0 (ints l0_0)) (hm0_0 : n0_0 ≤ 9223372036854775807) (hs0_1 : Sl w (fun _ => True) 3 A0_1 n0_1 (l0_1.flatMap Ver.cells)) (hm0_1 : n0_1 ≤ 9223372036854775807) :
    Calls Try.prog 5 #[.agg #[.slice A0_0 n0_0 c0_0, .int .i64 f0_1, .slice A0_1 n0_1 c0_1]] w fun e w' => e = .returned (.bool true) ∧ Ext w w' := by
  have hsO0_0 := hs0_0
  have hsO0_1 := hs0_1
  by_cases hz0 : (n0_0 : Int) + (n0_1 : Int) ≤ (1048576 : Int)
  rotate_left
  · go_enter Try.func5, Try.ntmps5
    go_wp2_with fail
    refine (szVersions_no _ _ _ _ _ _ _ ((1048576 : Int)) _ hm0_0 hm0_1 (by omega) (by omega) (by omega)).mono ?_
    rintro e w1 ⟨rfl, xw1⟩
    have ba0 : Hid (Bx w1 (w.heap.size) 36 #[.slice A0_0 n0_0 c0_0, .int .i64 f0_1, .slice A0_1 n0_1 c0_1]) := Bx.ext (Bx.new' _ _ _ rfl) xw1
    have zw1 : w.heap.size + 1 ≤ w1.heap.size := by have h := xw1.size; (try simp at h); omega
    replace xw1 := Ext.tr ((Ext.refl' w).al _) xw1
    have xx := xw1
    replace hs0_0 := hsO0_0.ext xx
    replace hs0_1 := hsO0_1.ext xx
    clear xw1
    go_wp2
    go_ret
    exact ⟨rfl, xx⟩
  have hN0_0 : n0_0 ≤ 1048576 := by omega
  have hN0_1 : n0_1 ≤ 1048576 := by omega
  go_enter Try.func5, Try.ntmps5
  go_wp2_with fail
  refine (szVersions_yes _ _ _ _ _ _ _ ((1048576 : Int)) _ hm0_0 hm0_1 (by omega) (by omega) (by omega)).mono ?_
  rintro e w1 ⟨rfl, xw1⟩
  have ba0 : Hid (Bx w1 (w.heap.size) 36 #[.slice A0_0 n0_0 c0_0, .int .i64 f0_1, .slice A0_1 n0_1 c0_1]) := Bx.ext (Bx.new' _ _ _ rfl) xw1
  have zw1 : w.heap.size + 1 ≤ w1.heap.size := by have h := xw1.size; (try simp at h); omega
  replace xw1 := Ext.tr ((Ext.refl' w).al _) xw1
  have xx := xw1
  replace hs0_0 := hsO0_0.ext xx
  replace hs0_1 := hsO0_1.ext xx
  clear xw1
  have ea0_0 : w1.cell? ⟨w.heap.size, 0, none⟩ = some (.slice A0_0 n0_0 c0_0) := ba0.out.cell 0
  have ea0_1 : w1.cell? ⟨w.heap.size, 1, none⟩ = some (.int .i64 f0_1) := ba0.out.cell 1
  have ea0_2 : w1.cell? ⟨w.heap.size, 2, none⟩ = some (.slice A0_1 n0_1 c0_1) := ba0.out.cell 2
  go_wp2_with fail
  refine (toVersions_any _ _ _ _ _ _ _ _ _ _ _ hs0_0 hN0_0 _ hs0_1 hN0_1).mono ?_
  rintro e w2 ⟨B2_0, d2_0, B2_1, d2_1, rfl, o2_0, o2_1, ap2, x2⟩
  clear ea0_0 ea0_1 ea0_2
  replace ba0 := Lib.hid (ba0.out.ext (Ext.tr (Ext.refl' w1) x2))
  have zw2 : w1.heap.size + 0 ≤ w2.heap.size := by have h := x2.size; (try simp at h); omega
  replace xx := xx.tr x2
  replace hs0_0 := hsO0_0.ext xx
  replace hs0_1 := hsO0_1.ext xx
  clear x2
  have r2_0 : Hid (∀ g, (Value.slice B2_0 n0_0 d2_0).ownBlock = some g → w1.heap.size + 0 ≤ g ∧ g < w2.heap.size) := fun g hg => by have h := o2_0.lt g hg; (try simp only [World.heap_alloc_size] at h); omega
  have r2_1 : Hid (∀ g, (Value.slice B2_1 n0_1 d2_1).ownBlock = some g → w1.heap.size + 0 ≤ g ∧ g < w2.heap.size) := fun g hg => by have h := o2_1.lt g hg; (try simp only [World.heap_alloc_size] at h); omega
  go_wp2_with fail
  refine (spec_VersLast _ _ _ _ _ _ _ _ _ _ _ (ownSl o2_0) hN0_0 _ (ownSl o2_1) hN0_1).mono ?_
  rintro e w3 ⟨rfl, x3⟩
  replace ba0 := Lib.hid (ba0.out.ext (Ext.tr (Ext.refl' w2) x3))
  have zw3 : w2.heap.size + 0 ≤ w3.heap.size := by have h := x3.size; (try simp at h); omega
  replace o2_0 := own_ext o2_0 x3
  replace o2_1 := own_ext o2_1 x3
  replace xx := xx.tr x3
  replace hs0_0 := hsO0_0.ext xx
  replace hs0_1 := hsO0_1.ext xx
  clear x3
  clear o2_0 o2_1
  have ea0_0 : w3.cell? ⟨w.heap.size, 0, none⟩ = some (.slice A0_0 n0_0 c0_0) := ba0.out.cell 0
  have ea0_1 : w3.cell? ⟨w.heap.size, 1, none⟩ = some (.int .i64 f0_1) := ba0.out.cell 1
  have ea0_2 : w3.cell? ⟨w.heap.size, 2, none⟩ = some (.slice A0_1 n0_1 c0_1) := ba0.out.cell 2
  go_wp2_with fail
  refine (toVersions_any _ _ _ _ _ _ _ _ _ _ _ hs0_0 hN0_0 _ hs0_1 hN0_1).mono ?_
  rintro e w4 ⟨B4_0, d4_0, B4_1, d4_1, rfl, o4_0, o4_1, ap4, x4⟩
  clear ea0_0 ea0_1 ea0_2
  replace ba0 := Lib.hid (ba0.out.ext (Ext.tr (Ext.refl' w3) x4))
  have zw4 : w3.heap.size + 0 ≤ w4.heap.size := by have h := x4.size; (try simp at h); omega
  replace xx := xx.tr x4
  replace hs0_0 := hsO0_0.ext xx
  replace hs0_1 := hsO0_1.ext xx
  clear x4
  have r4_0 : Hid (∀ g, (Value.slice B4_0 n0_0 d4_0).ownBlock = some g → w3.heap.size + 0 ≤ g ∧ g < w4.heap.size) := fun g hg => by have h := o4_0.lt g hg; (try simp only [World.heap_alloc_size] at h); omega
  have r4_1 : Hid (∀ g, (Value.slice B4_1 n0_1 d4_1).ownBlock = some g → w3.heap.size + 0 ≤ g ∧ g < w4.heap.size) := fun g hg => by have h := o4_1.lt g hg; (try simp only [World.heap_alloc_size] at h); omega
  go_wp2_with fail
  refine (impl_VersLast _ _ _ _ _ _ _ _ _ _ _ (ownSl (own_ext o4_0 ((Ext.refl' w4).al _))) hN0_0 _ (ownSl (own_ext o4_1 ((Ext.refl' w4).al _))) hN0_1).mono ?_
  rintro e w5 ⟨rfl, x5⟩
  replace ba0 := Lib.hid (ba0.out.ext (Ext.tr ((Ext.refl' w4).al _) x5))
  have bx0 : Hid (Bx w5 (w4.heap.size) 25 #[.slice B4_0 n0_0 d4_0, .int .i64 f0_1, .slice B4_1 n0_1 d4_1]) := Bx.ext (Bx.new' _ _ _ rfl) x5
  have zw5 : w4.heap.size + 1 ≤ w5.heap.size := by have h := x5.size; (try simp at h); omega
  replace x5 := Ext.tr ((Ext.refl' w4).al _) x5
  replace o4_0 := own_ext o4_0 x5
  replace o4_1 := own_ext o4_1 x5
  replace xx := xx.tr x5
  replace hs0_0 := hsO0_0.ext xx
  replace hs0_1 := hsO0_1.ext xx
  clear x5
  have ex0_0 : w5.cell? ⟨w4.heap.size, 0, none⟩ = some (.slice B4_0 n0_0 d4_0) := bx0.out.cell 0
  have ex0_1 : w5.cell? ⟨w4.heap.size, 1, none⟩ = some (.int .i64 f0_1) := bx0.out.cell 1
  have ex0_2 : w5.cell? ⟨w4.heap.size, 2, none⟩ = some (.slice B4_1 n0_1 d4_1) := bx0.out.cell 2
  have ea0_0 : w5.cell? ⟨w.heap.size, 0, none⟩ = some (.slice A0_0 n0_0 c0_0) := ba0.out.cell 0
  have ea0_1 : w5.cell? ⟨w.heap.size, 1, none⟩ = some (.int .i64 f0_1) := ba0.out.cell 1
  have ea0_2 : w5.cell? ⟨w.heap.size, 2, none⟩ = some (.slice A0_1 n0_1 c0_1) := ba0.out.cell 2
  go_wp2_with fail
  go_region_with (first | (go_at_call 21; refine (toVersions_any _ _ _ _ _ _ _ _ _ _ _ (hs0_0.ext ((Ext.refl' w5).dr)) hN0_0 _ (hs0_1.ext ((Ext.refl' w5).dr)) hN0_1).mono ?_; rintro e w6 ⟨B6_0, d6_0, B6_1, d6_1, rfl, o6_0, o6_1, ap6, x6⟩; have bq : Hid (Bx w6 (w4.heap.size) 25 #[.slice B4_0 n0_0 d4_0, .int .i64 f0_1, .slice B4_1 n0_1 d4_1]) := Bx.ext ((bx0.out.ext ((Ext.refl' w5).dr))) x6; have eq_0 : w6.cell? ⟨w4.heap.size, 0, none⟩ = some (.slice B4_0 n0_0 d4_0) := bq.out.cell 0; have eq_1 : w6.cell? ⟨w4.heap.size, 1, none⟩ = some (.int .i64 f0_1) := bq.out.cell 1; have eq_2 : w6.cell? ⟨w4.heap.size, 2, none⟩ = some (.slice B4_1 n0_1 d4_1) := bq.out.cell 2) | (go_at_call 14; refine (eqVersions_same _ _ _ _ _ _ _ _ _ _ _ _ _ _ _ (ownSl (own_ext o4_0 (Ext.tr ((Ext.refl' w5).dr) x6))) (by omega) _ (ownSl (own_ext o4_1 (Ext.tr ((Ext.refl' w5).dr) x6))) (by omega) _ (ownSl o6_0) _ (ownSl o6_1)).mono ?_; rintro e w7 ⟨rfl, x7⟩))
  all_goals
    clear bq eq_0 eq_1 eq_2
    replace x7 := Ext.tr x6 x7
    clear o6_0 o6_1 ap6
    clear ex0_0 ex0_1 ex0_2 ea0_0 ea0_1 ea0_2
    replace ba0 := Lib.hid (ba0.out.ext (Ext.tr ((Ext.refl' w5).dr) x7))
    replace bx0 := Lib.hid (bx0.out.ext (Ext.tr ((Ext.refl' w5).dr) x7))
    have zw7 : w5.heap.size + 0 ≤ w7.heap.size := by have h := x7.size; (try simp at h); omega
    replace x7 := Ext.tr ((Ext.refl' w5).dr) x7
    replace o4_0 := own_ext o4_0 x7
    replace o4_1 := own_ext o4_1 x7
    replace xx := xx.tr x7
    replace hs0_0 := hsO0_0.ext xx
    replace hs0_1 := hsO0_1.ext xx
    clear x7
    go_wp2
    go_ret
    exact ⟨rfl, xx⟩
end Go.Proofs.Ytnhkjgnfjphllaa
