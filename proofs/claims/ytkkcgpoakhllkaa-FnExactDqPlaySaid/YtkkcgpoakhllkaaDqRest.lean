/- DqRest of program and reference; the contract of laws.FnExactDqRest. No condition. -/
import Derived.Test.YtkkcgpoakhllkaaDequeR
namespace Go.Proofs.Ytkkcgpoakhllkaa
open Go.RowKit Go.Deep

def Thief.idle (_ : Nat) (t : Thief) : Prop := t.phase = 0
noncomputable def dqRest (ph : Int) (l : List Thief) : Bool := dec (ph = 0 ∧ AllTo Thief.idle l l.length)

set_option maxHeartbeats 2000000 in
theorem spec_DqRest (f0 f1 f2 f4 f5 f6 : Int) (A0 : Option Addr) (n0 c0 : Nat) (l0 : List Int) (A1 : Option Addr) (n1 c1 : Nat) (l1 : List Thief) (A2 : Option Addr) (n2 c2 : Nat) (l2 : List Taken) (w : World)
    (S0 : Nat → Prop) (_hs0 : Sl w S0 1 A0 n0 (ints l0)) (_hm0 : n0 ≤ 1048576) (S1 : Nat → Prop) (hs1 : Sl w S1 4 A1 n1 (l1.flatMap Thief.cells)) (hm1 : n1 ≤ 1048576) (S2 : Nat → Prop) (_hs2 : Sl w S2 2 A2 n2 (l2.flatMap Taken.cells)) (_hm2 : n2 ≤ 1048576) :
    Calls Try.prog 14 #[.agg #[.int .i64 f0, .int .i64 f1, .int .i64 f2, .slice A0 n0 c0, .int .i64 f4, .int .i64 f5, .int .i64 f6, .slice A1 n1 c1, .slice A2 n2 c2]] w fun e w' => e = .returned (.bool (dqRest f4 l1)) ∧ Ext w w' := by
  have H := Lib.hid (hs1.flen Thief.cells_length (by omega))
  have HX := Lib.hid ((Ext.refl' w).al (.cells #[.int .i64 f0, .int .i64 f1, .int .i64 f2, .slice A0 n0 c0, .int .i64 f4, .int .i64 f5, .int .i64 f6, .slice A1 n1 c1, .slice A2 n2 c2] 42))
  have HS := Lib.hid (hs1.ext HX.out)
  clear _hs0 _hs2 hs1
  go_enter Try.func14, Try.ntmps14
  go_wp2
  go_loop [3] (fun i => ∃ k : Nat, k ≤ n1 ∧ i = .int .i64 k ∧ AllTo Thief.idle l1 k) (fun i => n1 - (intOf i).toNat)
  case atStart => exact ⟨0, Nat.zero_le _, rfl, AllTo.zero _ _⟩
  case round =>
    obtain ⟨k, hk, rfl, hup⟩ := hrel
    have HU := Lib.hid hup
    clear hup
    by_cases hlt : k < n1
    · obtain ⟨b, o, rfl⟩ := HS.out.addr (by omega)
      obtain ⟨s, hsk, -, hc⟩ := HS.out.flat_cell Thief.cells_length (by omega) hlt
      obtain ⟨g0, g1, g2, g3⟩ := s
      have k0 := hc 0 (by omega)
      simp only [Thief.cells, List.getElem?_cons_zero, Nat.add_zero] at k0
      have HSK := Lib.hid hsk
      clear hsk hc
      by_cases h0 : g0 = 0
      · have b0 : (g0 != 0) = false := by simp [h0]
        have H0 := Lib.hid h0
        clear h0
        go_wp2
        go_round
        case rel => exact ⟨k + 1, by omega, by go_num, HU.out.succ HSK.out H0.out⟩
        case measure => simp [intOf]; omega
      · have b0 : (g0 != 0) = true := by simp [h0]
        have H0 := Lib.hid h0
        clear h0
        go_wp2
        go_ret
        exact ⟨by rw [dqRest, dec_no fun h => AllTo.not HSK.out (by rw [H.out]; exact hlt) (fun q => H0.out q) h.2]; rfl, HX.out⟩
    · have e : k = l1.length := by rw [H.out]; omega
      by_cases h0 : f4 = 0
      · have b0 : (f4 == 0) = true := by simp [h0]
        have HY := Lib.hid (dec_yes (p := f4 = 0 ∧ AllTo Thief.idle l1 l1.length) ⟨h0, by rw [← e]; exact HU.out⟩)
        clear h0 e
        go_wp2
        go_ret
        exact ⟨by rw [dqRest, HY.out]; rfl, HX.out⟩
      · have b0 : (f4 == 0) = false := by simp [h0]
        have HY := Lib.hid (dec_no (p := f4 = 0 ∧ AllTo Thief.idle l1 l1.length) fun h => h0 h.1)
        clear h0 e
        go_wp2
        go_ret
        exact ⟨by rw [dqRest, HY.out]; rfl, HX.out⟩

theorem busy_any (g0 g1 g2 g3 : Int) (w : World) :
    Calls Try.prog 42 #[.agg #[.int .i64 g0, .int .i64 g1, .int .i64 g2, .int .i64 g3]] w fun e w' => e = .returned (.bool (g0 != 0)) ∧ Ext w w' := by
  go_enter Try.func42, Try.ntmps42
  go_wp2
  go_ret
  exact ⟨rfl, (Ext.refl' w).al _⟩

set_option maxHeartbeats 2000000 in
theorem idxBusy_any (A : Option Addr) (n c : Nat) (l : List Thief) (w : World) (S : Nat → Prop) (hs : Sl w S 4 A n (l.flatMap Thief.cells)) (hm : n ≤ 1048576) :
    Calls Try.prog 60 #[.slice A n c, .func (.func 42) #[] #[]] w fun e w' => ∃ i : Int, e = .returned (.int .i64 i) ∧ ((i = -1 ∧ AllTo Thief.idle l l.length) ∨ (0 ≤ i ∧ ¬ AllTo Thief.idle l l.length)) ∧ Ext w w' := by
  have H := Lib.hid (hs.flen Thief.cells_length (by omega))
  go_enter Try.func60, Try.ntmps60
  go_wp2
  go_loopw [8] (fun i wr => ∃ k : Nat, k ≤ n ∧ i = .int .i64 k ∧ AllTo Thief.idle l k ∧ Ext w wr) (fun i _ => n - (intOf i).toNat)
  case atStart => exact ⟨0, Nat.zero_le _, rfl, AllTo.zero _ _, Ext.refl' _⟩
  case round =>
    obtain ⟨k, hk, rfl, hup, hx⟩ := hrel
    have HU := Lib.hid hup
    have HX := Lib.hid hx
    clear hup
    by_cases hlt : k < n
    · obtain ⟨b, o, rfl⟩ := hs.addr (by omega)
      obtain ⟨s, hsk, -, hc⟩ := (hs.ext hx).flat_cell Thief.cells_length (by omega) hlt
      obtain ⟨g0, g1, g2, g3⟩ := s
      have k0 := hc 0 (by omega)
      have k1 := hc 1 (by omega)
      have k2 := hc 2 (by omega)
      have k3 := hc 3 (by omega)
      simp only [Thief.cells, List.getElem?_cons_zero, List.getElem?_cons_succ, Nat.add_zero] at k0 k1 k2 k3
      have HSK := Lib.hid hsk
      clear hsk hc hx
      go_wp2_with fail
      refine (busy_any _ _ _ _ _).mono ?_
      rintro e w2 ⟨rfl, x2⟩
      have X2 := Lib.hid (HX.out.tr x2)
      clear x2
      by_cases h0 : g0 = 0
      · have b0 : (g0 != 0) = false := by simp [h0]
        have H0 := Lib.hid h0
        clear h0
        go_wp2
        go_roundw
        case rel => exact ⟨k + 1, by omega, by go_num, HU.out.succ HSK.out H0.out, X2.out⟩
        case measure => simp [intOf]; omega
      · have b0 : (g0 != 0) = true := by simp [h0]
        have H0 := Lib.hid h0
        clear h0
        go_wp2
        go_ret
        exact ⟨k, rfl, .inr ⟨by omega, fun h => AllTo.not HSK.out (by rw [H.out]; exact hlt) (fun q => H0.out q) h⟩, X2.out⟩
    · clear hx
      go_wp2
      go_ret
      have e : k = l.length := by rw [H.out]; omega
      exact ⟨-1, rfl, .inl ⟨rfl, by rw [← e]; exact HU.out⟩, HX.out⟩

theorem anyBusy_any (A : Option Addr) (n c : Nat) (l : List Thief) (w : World) (S : Nat → Prop) (hs : Sl w S 4 A n (l.flatMap Thief.cells)) (hm : n ≤ 1048576) :
    Calls Try.prog 41 #[.slice A n c, .func (.func 42) #[] #[]] w fun e w' => e = .returned (.bool (!dec (AllTo Thief.idle l l.length))) ∧ Ext w w' := by
  go_enter Try.func41, Try.ntmps41
  go_wp2_with fail
  refine (idxBusy_any _ _ _ _ _ _ hs hm).mono ?_
  rintro e w1 ⟨i, rfl, hi, x1⟩
  have X1 := Lib.hid x1
  clear x1
  rcases hi with ⟨rfl, hx⟩ | ⟨hi, hx⟩
  · have HX := Lib.hid hx
    clear hx
    go_wp2
    go_ret
    exact ⟨by rw [dec_yes HX.out]; rfl, X1.out⟩
  · have HX := Lib.hid hx
    clear hx
    go_wp2
    go_ret
    exact ⟨by rw [dec_no HX.out]; rfl, X1.out⟩

set_option maxHeartbeats 2000000 in
theorem impl_DqRest (f0 f1 f2 f4 f5 f6 : Int) (A0 : Option Addr) (n0 c0 : Nat) (l0 : List Int) (A1 : Option Addr) (n1 c1 : Nat) (l1 : List Thief) (A2 : Option Addr) (n2 c2 : Nat) (l2 : List Taken) (w : World)
    (S0 : Nat → Prop) (_hs0 : Sl w S0 1 A0 n0 (ints l0)) (_hm0 : n0 ≤ 1048576) (S1 : Nat → Prop) (hs1 : Sl w S1 4 A1 n1 (l1.flatMap Thief.cells)) (hm1 : n1 ≤ 1048576) (S2 : Nat → Prop) (_hs2 : Sl w S2 2 A2 n2 (l2.flatMap Taken.cells)) (_hm2 : n2 ≤ 1048576) :
    Calls Try.prog 16 #[.agg #[.int .i64 f0, .int .i64 f1, .int .i64 f2, .slice A0 n0 c0, .int .i64 f4, .int .i64 f5, .int .i64 f6, .slice A1 n1 c1, .slice A2 n2 c2]] w fun e w' => e = .returned (.bool (dqRest f4 l1)) ∧ Ext w w' := by
  have HX := Lib.hid ((Ext.refl' w).al (.cells #[.int .i64 f0, .int .i64 f1, .int .i64 f2, .slice A0 n0 c0, .int .i64 f4, .int .i64 f5, .int .i64 f6, .slice A1 n1 c1, .slice A2 n2 c2] 42))
  have HS := Lib.hid (hs1.ext HX.out)
  clear _hs0 _hs2 hs1
  by_cases h0 : f4 = 0
  rotate_left
  · have b0 : (f4 == 0) = false := by simp [h0]
    have HY := Lib.hid (dec_no (p := f4 = 0 ∧ AllTo Thief.idle l1 l1.length) fun h => h0 h.1)
    clear h0
    go_enter Try.func16, Try.ntmps16
    go_wp2
    go_ret
    exact ⟨by rw [dqRest, HY.out]; rfl, HX.out⟩
  have b0 : (f4 == 0) = true := by simp [h0]
  have H0 := Lib.hid h0
  clear h0
  go_enter Try.func16, Try.ntmps16
  go_wp2_with fail
  refine (anyBusy_any _ _ _ l1 _ S1 HS.out (by omega)).mono ?_
  rintro e w1 ⟨rfl, x1⟩
  have X1 := Lib.hid (HX.out.tr x1)
  clear x1
  cases hb : dec (AllTo Thief.idle l1 l1.length)
  · have HY := Lib.hid (dec_no (p := f4 = 0 ∧ AllTo Thief.idle l1 l1.length) fun h => dec_false hb h.2)
    clear hb
    go_wp2
    go_ret
    exact ⟨by rw [dqRest, HY.out]; rfl, X1.out⟩
  · have HY := Lib.hid (dec_yes (p := f4 = 0 ∧ AllTo Thief.idle l1 l1.length) ⟨H0.out, dec_true hb⟩)
    clear hb
    go_wp2
    go_ret
    exact ⟨by rw [dqRest, HY.out]; rfl, X1.out⟩

set_option maxHeartbeats 8000000 in
theorem law_DqRest (f0_0 : Int) (f0_1 : Int) (f0_2 : Int) (f0_4 : Int) (f0_5 : Int) (f0_6 : Int) (A0_0 : Option Addr) (n0_0 c0_0 : Nat) (l0_0 : List Int) (A0_1 : Option Addr) (n0_1 c0_1 : Nat) (l0_1 : List Thief) (A0_2 : Option Addr) (n0_2 c0_2 : Nat) (l0_2 : List Taken) (w : World) (hs0_0 : Sl w (fun _ => True) 1 A0_0 n0_0 (ints l0_0)) (hm0_0 : n0_0 ≤ 9223372036854775807) (hs0_1 : Sl w (fun _ => True) 4 A0_1 n0_1 (l0_1.flatMap Thief.cells)) (hm0_1 : n0_1 ≤ 9223372036854775807) (hs0_2 : Sl w (fun _ => True) 2 A0_2 n0_2 (l0_2.flatMap Taken.cells)) (hm0_2 : n0_2 ≤ 9223372036854775807) :
    Calls Try.prog 4 #[.agg #[.int .i64 f0_0, .int .i64 f0_1, .int .i64 f0_2, .slice A0_0 n0_0 c0_0, .int .i64 f0_4, .int .i64 f0_5, .int .i64 f0_6, .slice A0_1 n0_1 c0_1, .slice A0_2 n0_2 c0_2]] w fun e w' => e = .returned (.bool true) ∧ Ext w w' := by
  have hsO0_0 := hs0_0
  have hsO0_1 := hs0_1
  have hsO0_2 := hs0_2
  by_cases hz0 : (n0_0 : Int) + (n0_1 : Int) + (n0_2 : Int) ≤ (1048576 : Int)
  rotate_left
  · go_enter Try.func4, Try.ntmps4
    go_wp2_with fail
    refine (szDeque_no _ _ _ _ _ _ _ _ _ _ _ _ _ _ _ ((1048576 : Int)) _ hm0_0 hm0_1 hm0_2 (by omega) (by omega) (by omega)).mono ?_
    rintro e w1 ⟨rfl, xw1⟩
    have ba0 : Hid (Bx w1 (w.heap.size) 35 #[.int .i64 f0_0, .int .i64 f0_1, .int .i64 f0_2, .slice A0_0 n0_0 c0_0, .int .i64 f0_4, .int .i64 f0_5, .int .i64 f0_6, .slice A0_1 n0_1 c0_1, .slice A0_2 n0_2 c0_2]) := Bx.ext (Bx.new' _ _ _ rfl) xw1
    have zw1 : w.heap.size + 1 ≤ w1.heap.size := by have h := xw1.size; (try simp at h); omega
    replace xw1 := Ext.tr ((Ext.refl' w).al _) xw1
    have xx := xw1
    replace hs0_0 := hsO0_0.ext xx
    replace hs0_1 := hsO0_1.ext xx
    replace hs0_2 := hsO0_2.ext xx
    clear xw1
    go_wp2
    go_ret
    exact ⟨rfl, xx⟩
  have hN0_0 : n0_0 ≤ 1048576 := by omega
  have hN0_1 : n0_1 ≤ 1048576 := by omega
  have hN0_2 : n0_2 ≤ 1048576 := by omega
  go_enter Try.func4, Try.ntmps4
  go_wp2_with fail
  refine (szDeque_yes _ _ _ _ _ _ _ _ _ _ _ _ _ _ _ ((1048576 : Int)) _ hm0_0 hm0_1 hm0_2 (by omega) (by omega) (by omega)).mono ?_
  rintro e w1 ⟨rfl, xw1⟩
  have ba0 : Hid (Bx w1 (w.heap.size) 35 #[.int .i64 f0_0, .int .i64 f0_1, .int .i64 f0_2, .slice A0_0 n0_0 c0_0, .int .i64 f0_4, .int .i64 f0_5, .int .i64 f0_6, .slice A0_1 n0_1 c0_1, .slice A0_2 n0_2 c0_2]) := Bx.ext (Bx.new' _ _ _ rfl) xw1
  have zw1 : w.heap.size + 1 ≤ w1.heap.size := by have h := xw1.size; (try simp at h); omega
  replace xw1 := Ext.tr ((Ext.refl' w).al _) xw1
  have xx := xw1
  replace hs0_0 := hsO0_0.ext xx
  replace hs0_1 := hsO0_1.ext xx
  replace hs0_2 := hsO0_2.ext xx
  clear xw1
  have ea0_0 : w1.cell? ⟨w.heap.size, 0, none⟩ = some (.int .i64 f0_0) := ba0.out.cell 0
  have ea0_1 : w1.cell? ⟨w.heap.size, 1, none⟩ = some (.int .i64 f0_1) := ba0.out.cell 1
  have ea0_2 : w1.cell? ⟨w.heap.size, 2, none⟩ = some (.int .i64 f0_2) := ba0.out.cell 2
  have ea0_3 : w1.cell? ⟨w.heap.size, 3, none⟩ = some (.slice A0_0 n0_0 c0_0) := ba0.out.cell 3
  have ea0_4 : w1.cell? ⟨w.heap.size, 4, none⟩ = some (.int .i64 f0_4) := ba0.out.cell 4
  have ea0_5 : w1.cell? ⟨w.heap.size, 5, none⟩ = some (.int .i64 f0_5) := ba0.out.cell 5
  have ea0_6 : w1.cell? ⟨w.heap.size, 6, none⟩ = some (.int .i64 f0_6) := ba0.out.cell 6
  have ea0_7 : w1.cell? ⟨w.heap.size, 7, none⟩ = some (.slice A0_1 n0_1 c0_1) := ba0.out.cell 7
  have ea0_8 : w1.cell? ⟨w.heap.size, 8, none⟩ = some (.slice A0_2 n0_2 c0_2) := ba0.out.cell 8
  go_wp2_with fail
  refine (toDeque_any _ _ _ _ _ _ _ _ _ _ _ _ _ _ _ _ _ _ _ _ hs0_0 hN0_0 _ hs0_1 hN0_1 _ hs0_2 hN0_2).mono ?_
  rintro e w2 ⟨B2_0, d2_0, B2_1, d2_1, B2_2, d2_2, rfl, o2_0, o2_1, o2_2, ap2, x2⟩
  clear ea0_0 ea0_1 ea0_2 ea0_3 ea0_4 ea0_5 ea0_6 ea0_7 ea0_8
  replace ba0 := Lib.hid (ba0.out.ext (Ext.tr (Ext.refl' w1) x2))
  have zw2 : w1.heap.size + 0 ≤ w2.heap.size := by have h := x2.size; (try simp at h); omega
  replace xx := xx.tr x2
  replace hs0_0 := hsO0_0.ext xx
  replace hs0_1 := hsO0_1.ext xx
  replace hs0_2 := hsO0_2.ext xx
  clear x2
  have r2_0 : Hid (∀ g, (Value.slice B2_0 n0_0 d2_0).ownBlock = some g → w1.heap.size + 0 ≤ g ∧ g < w2.heap.size) := fun g hg => by have h := o2_0.lt g hg; (try simp only [World.heap_alloc_size] at h); omega
  have r2_1 : Hid (∀ g, (Value.slice B2_1 n0_1 d2_1).ownBlock = some g → w1.heap.size + 0 ≤ g ∧ g < w2.heap.size) := fun g hg => by have h := o2_1.lt g hg; (try simp only [World.heap_alloc_size] at h); omega
  have r2_2 : Hid (∀ g, (Value.slice B2_2 n0_2 d2_2).ownBlock = some g → w1.heap.size + 0 ≤ g ∧ g < w2.heap.size) := fun g hg => by have h := o2_2.lt g hg; (try simp only [World.heap_alloc_size] at h); omega
  go_wp2_with fail
  refine (spec_DqRest _ _ _ _ _ _ _ _ _ _ _ _ _ _ _ _ _ _ _ _ (ownSl o2_0) hN0_0 _ (ownSl o2_1) hN0_1 _ (ownSl o2_2) hN0_2).mono ?_
  rintro e w3 ⟨rfl, x3⟩
  replace ba0 := Lib.hid (ba0.out.ext (Ext.tr (Ext.refl' w2) x3))
  have zw3 : w2.heap.size + 0 ≤ w3.heap.size := by have h := x3.size; (try simp at h); omega
  replace o2_0 := own_ext o2_0 x3
  replace o2_1 := own_ext o2_1 x3
  replace o2_2 := own_ext o2_2 x3
  replace xx := xx.tr x3
  replace hs0_0 := hsO0_0.ext xx
  replace hs0_1 := hsO0_1.ext xx
  replace hs0_2 := hsO0_2.ext xx
  clear x3
  clear o2_0 o2_1 o2_2
  have ea0_0 : w3.cell? ⟨w.heap.size, 0, none⟩ = some (.int .i64 f0_0) := ba0.out.cell 0
  have ea0_1 : w3.cell? ⟨w.heap.size, 1, none⟩ = some (.int .i64 f0_1) := ba0.out.cell 1
  have ea0_2 : w3.cell? ⟨w.heap.size, 2, none⟩ = some (.int .i64 f0_2) := ba0.out.cell 2
  have ea0_3 : w3.cell? ⟨w.heap.size, 3, none⟩ = some (.slice A0_0 n0_0 c0_0) := ba0.out.cell 3
  have ea0_4 : w3.cell? ⟨w.heap.size, 4, none⟩ = some (.int .i64 f0_4) := ba0.out.cell 4
  have ea0_5 : w3.cell? ⟨w.heap.size, 5, none⟩ = some (.int .i64 f0_5) := ba0.out.cell 5
  have ea0_6 : w3.cell? ⟨w.heap.size, 6, none⟩ = some (.int .i64 f0_6) := ba0.out.cell 6
  have ea0_7 : w3.cell? ⟨w.heap.size, 7, none⟩ = some (.slice A0_1 n0_1 c0_1) := ba0.out.cell 7
  have ea0_8 : w3.cell? ⟨w.heap.size, 8, none⟩ = some (.slice A0_2 n0_2 c0_2) := ba0.out.cell 8
  go_wp2_with fail
  refine (toDeque_any _ _ _ _ _ _ _ _ _ _ _ _ _ _ _ _ _ _ _ _ hs0_0 hN0_0 _ hs0_1 hN0_1 _ hs0_2 hN0_2).mono ?_
  rintro e w4 ⟨B4_0, d4_0, B4_1, d4_1, B4_2, d4_2, rfl, o4_0, o4_1, o4_2, ap4, x4⟩
  clear ea0_0 ea0_1 ea0_2 ea0_3 ea0_4 ea0_5 ea0_6 ea0_7 ea0_8
  replace ba0 := Lib.hid (ba0.out.ext (Ext.tr (Ext.refl' w3) x4))
  have zw4 : w3.heap.size + 0 ≤ w4.heap.size := by have h := x4.size; (try simp at h); omega
  replace xx := xx.tr x4
  replace hs0_0 := hsO0_0.ext xx
  replace hs0_1 := hsO0_1.ext xx
  replace hs0_2 := hsO0_2.ext xx
  clear x4
  have r4_0 : Hid (∀ g, (Value.slice B4_0 n0_0 d4_0).ownBlock = some g → w3.heap.size + 0 ≤ g ∧ g < w4.heap.size) := fun g hg => by have h := o4_0.lt g hg; (try simp only [World.heap_alloc_size] at h); omega
  have r4_1 : Hid (∀ g, (Value.slice B4_1 n0_1 d4_1).ownBlock = some g → w3.heap.size + 0 ≤ g ∧ g < w4.heap.size) := fun g hg => by have h := o4_1.lt g hg; (try simp only [World.heap_alloc_size] at h); omega
  have r4_2 : Hid (∀ g, (Value.slice B4_2 n0_2 d4_2).ownBlock = some g → w3.heap.size + 0 ≤ g ∧ g < w4.heap.size) := fun g hg => by have h := o4_2.lt g hg; (try simp only [World.heap_alloc_size] at h); omega
  go_wp2_with fail
  refine (impl_DqRest _ _ _ _ _ _ _ _ _ _ _ _ _ _ _ _ _ _ _ _ (ownSl (own_ext o4_0 ((Ext.refl' w4).al _))) hN0_0 _ (ownSl (own_ext o4_1 ((Ext.refl' w4).al _))) hN0_1 _ (ownSl (own_ext o4_2 ((Ext.refl' w4).al _))) hN0_2).mono ?_
  rintro e w5 ⟨rfl, x5⟩
  replace ba0 := Lib.hid (ba0.out.ext (Ext.tr ((Ext.refl' w4).al _) x5))
  have bx0 : Hid (Bx w5 (w4.heap.size) 42 #[.int .i64 f0_0, .int .i64 f0_1, .int .i64 f0_2, .slice B4_0 n0_0 d4_0, .int .i64 f0_4, .int .i64 f0_5, .int .i64 f0_6, .slice B4_1 n0_1 d4_1, .slice B4_2 n0_2 d4_2]) := Bx.ext (Bx.new' _ _ _ rfl) x5
  have zw5 : w4.heap.size + 1 ≤ w5.heap.size := by have h := x5.size; (try simp at h); omega
  replace x5 := Ext.tr ((Ext.refl' w4).al _) x5
  replace o4_0 := own_ext o4_0 x5
  replace o4_1 := own_ext o4_1 x5
  replace o4_2 := own_ext o4_2 x5
  replace xx := xx.tr x5
  replace hs0_0 := hsO0_0.ext xx
  replace hs0_1 := hsO0_1.ext xx
  replace hs0_2 := hsO0_2.ext xx
  clear x5
  have ex0_0 : w5.cell? ⟨w4.heap.size, 0, none⟩ = some (.int .i64 f0_0) := bx0.out.cell 0
  have ex0_1 : w5.cell? ⟨w4.heap.size, 1, none⟩ = some (.int .i64 f0_1) := bx0.out.cell 1
  have ex0_2 : w5.cell? ⟨w4.heap.size, 2, none⟩ = some (.int .i64 f0_2) := bx0.out.cell 2
  have ex0_3 : w5.cell? ⟨w4.heap.size, 3, none⟩ = some (.slice B4_0 n0_0 d4_0) := bx0.out.cell 3
  have ex0_4 : w5.cell? ⟨w4.heap.size, 4, none⟩ = some (.int .i64 f0_4) := bx0.out.cell 4
  have ex0_5 : w5.cell? ⟨w4.heap.size, 5, none⟩ = some (.int .i64 f0_5) := bx0.out.cell 5
  have ex0_6 : w5.cell? ⟨w4.heap.size, 6, none⟩ = some (.int .i64 f0_6) := bx0.out.cell 6
  have ex0_7 : w5.cell? ⟨w4.heap.size, 7, none⟩ = some (.slice B4_1 n0_1 d4_1) := bx0.out.cell 7
  have ex0_8 : w5.cell? ⟨w4.heap.size, 8, none⟩ = some (.slice B4_2 n0_2 d4_2) := bx0.out.cell 8
  have ea0_0 : w5.cell? ⟨w.heap.size, 0, none⟩ = some (.int .i64 f0_0) := ba0.out.cell 0
  have ea0_1 : w5.cell? ⟨w.heap.size, 1, none⟩ = some (.int .i64 f0_1) := ba0.out.cell 1
  have ea0_2 : w5.cell? ⟨w.heap.size, 2, none⟩ = some (.int .i64 f0_2) := ba0.out.cell 2
  have ea0_3 : w5.cell? ⟨w.heap.size, 3, none⟩ = some (.slice A0_0 n0_0 c0_0) := ba0.out.cell 3
  have ea0_4 : w5.cell? ⟨w.heap.size, 4, none⟩ = some (.int .i64 f0_4) := ba0.out.cell 4
  have ea0_5 : w5.cell? ⟨w.heap.size, 5, none⟩ = some (.int .i64 f0_5) := ba0.out.cell 5
  have ea0_6 : w5.cell? ⟨w.heap.size, 6, none⟩ = some (.int .i64 f0_6) := ba0.out.cell 6
  have ea0_7 : w5.cell? ⟨w.heap.size, 7, none⟩ = some (.slice A0_1 n0_1 c0_1) := ba0.out.cell 7
  have ea0_8 : w5.cell? ⟨w.heap.size, 8, none⟩ = some (.slice A0_2 n0_2 c0_2) := ba0.out.cell 8
  go_wp2_with fail
  go_region_with (first | (go_at_call 15; refine (toDeque_any _ _ _ _ _ _ _ _ _ _ _ _ _ _ _ _ _ _ _ _ (hs0_0.ext ((Ext.refl' w5).dr)) hN0_0 _ (hs0_1.ext ((Ext.refl' w5).dr)) hN0_1 _ (hs0_2.ext ((Ext.refl' w5).dr)) hN0_2).mono ?_; rintro e w6 ⟨B6_0, d6_0, B6_1, d6_1, B6_2, d6_2, rfl, o6_0, o6_1, o6_2, ap6, x6⟩; have bq : Hid (Bx w6 (w4.heap.size) 42 #[.int .i64 f0_0, .int .i64 f0_1, .int .i64 f0_2, .slice B4_0 n0_0 d4_0, .int .i64 f0_4, .int .i64 f0_5, .int .i64 f0_6, .slice B4_1 n0_1 d4_1, .slice B4_2 n0_2 d4_2]) := Bx.ext ((bx0.out.ext ((Ext.refl' w5).dr))) x6; have eq_0 : w6.cell? ⟨w4.heap.size, 0, none⟩ = some (.int .i64 f0_0) := bq.out.cell 0; have eq_1 : w6.cell? ⟨w4.heap.size, 1, none⟩ = some (.int .i64 f0_1) := bq.out.cell 1; have eq_2 : w6.cell? ⟨w4.heap.size, 2, none⟩ = some (.int .i64 f0_2) := bq.out.cell 2; have eq_3 : w6.cell? ⟨w4.heap.size, 3, none⟩ = some (.slice B4_0 n0_0 d4_0) := bq.out.cell 3; have eq_4 : w6.cell? ⟨w4.heap.size, 4, none⟩ = some (.int .i64 f0_4) := bq.out.cell 4; have eq_5 : w6.cell? ⟨w4.heap.size, 5, none⟩ = some (.int .i64 f0_5) := bq.out.cell 5; have eq_6 : w6.cell? ⟨w4.heap.size, 6, none⟩ = some (.int .i64 f0_6) := bq.out.cell 6; have eq_7 : w6.cell? ⟨w4.heap.size, 7, none⟩ = some (.slice B4_1 n0_1 d4_1) := bq.out.cell 7; have eq_8 : w6.cell? ⟨w4.heap.size, 8, none⟩ = some (.slice B4_2 n0_2 d4_2) := bq.out.cell 8) | (go_at_call 17; refine (eqDeque_same _ _ _ _ _ _ _ _ _ _ _ _ _ _ _ _ _ _ _ _ _ _ _ _ _ _ (ownSl (own_ext o4_0 (Ext.tr ((Ext.refl' w5).dr) x6))) (by omega) _ (ownSl (own_ext o4_1 (Ext.tr ((Ext.refl' w5).dr) x6))) (by omega) _ (ownSl (own_ext o4_2 (Ext.tr ((Ext.refl' w5).dr) x6))) (by omega) _ (ownSl o6_0) _ (ownSl o6_1) _ (ownSl o6_2)).mono ?_; rintro e w7 ⟨rfl, x7⟩))
  all_goals
    clear bq eq_0 eq_1 eq_2 eq_3 eq_4 eq_5 eq_6 eq_7 eq_8
    replace x7 := Ext.tr x6 x7
    clear o6_0 o6_1 o6_2 ap6
    clear ex0_0 ex0_1 ex0_2 ex0_3 ex0_4 ex0_5 ex0_6 ex0_7 ex0_8 ea0_0 ea0_1 ea0_2 ea0_3 ea0_4 ea0_5 ea0_6 ea0_7 ea0_8
    replace ba0 := Lib.hid (ba0.out.ext (Ext.tr ((Ext.refl' w5).dr) x7))
    replace bx0 := Lib.hid (bx0.out.ext (Ext.tr ((Ext.refl' w5).dr) x7))
    have zw7 : w5.heap.size + 0 ≤ w7.heap.size := by have h := x7.size; (try simp at h); omega
    replace x7 := Ext.tr ((Ext.refl' w5).dr) x7
    replace o4_0 := own_ext o4_0 x7
    replace o4_1 := own_ext o4_1 x7
    replace o4_2 := own_ext o4_2 x7
    replace xx := xx.tr x7
    replace hs0_0 := hsO0_0.ext xx
    replace hs0_1 := hsO0_1.ext xx
    replace hs0_2 := hsO0_2.ext xx
    clear x7
    go_wp2
    go_ret
    exact ⟨rfl, xx⟩
end Go.Proofs.Ytkkcgpoakhllkaa
