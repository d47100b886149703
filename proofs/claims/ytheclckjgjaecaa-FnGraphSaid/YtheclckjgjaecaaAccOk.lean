/- AccessOk of program and reference; the contract of laws.FnExactAccessOk. No condition. -/
import Derived.Test.YtheclckjgjaecaaGraphT
import Derived.Test.YtheclckjgjaecaaIn
namespace Go.Proofs.Ytheclckjgjaecaa
open Go.RowKit Go.Deep

theorem l3Cell_any (x : Int) (w : World) :
    Calls Try.prog 45 #[.int .i64 x] w fun e w' => e = .returned (.bool (decide (0 ≤ x ∧ x ≤ 7))) ∧ w = w' := by
  go_enter Try.func45, Try.ntmps45
  go_wp2_with (go_at_call 44; refine (l1In_any _ _ _ _).mono ?_; rintro e w' ⟨rfl, rfl⟩)
  go_ret
  simp
theorem isCell_any (x : Int) (w : World) :
    Calls Try.prog 48 #[.int .i64 x] w fun e w' => e = .returned (.bool (decide (0 ≤ x ∧ x ≤ 7))) ∧ w = w' := by
  go_enter Try.func48, Try.ntmps48
  go_wp2_with (go_at_call 47; refine (within_any _ _ _ _).mono ?_; rintro e w' ⟨rfl, rfl⟩)
  go_ret
  simp

def Access.ok (_ : Nat) (a : Access) : Prop := (0 ≤ a.who ∧ a.who ≤ 8) ∧ (0 ≤ a.cell ∧ a.cell ≤ 7)
noncomputable def accOk (l : List Access) : Bool := dec (l.length ≤ 60 ∧ AllTo Access.ok l l.length)

set_option maxHeartbeats 1000000 in
theorem spec_AccessOk (A : Option Addr) (n c : Nat) (l : List Access) (w : World) (S : Nat → Prop) (hs : Sl w S 3 A n (l.flatMap Access.cells)) (hm : n ≤ 1048576) :
    Calls Try.prog 13 #[.slice A n c] w fun e w' => e = .returned (.bool (accOk l)) ∧ Ext w w' := by
  have H := Lib.hid (hs.flen Access.cells_length (by omega))
  by_cases h60 : n ≤ 60
  · go_enter Try.func13, Try.ntmps13
    go_wp2
    go_loop [3] (fun i => ∃ k : Nat, k ≤ n ∧ i = .int .i64 k ∧ AllTo Access.ok l k) (fun i => n - (intOf i).toNat)
    case atStart => exact ⟨0, Nat.zero_le _, rfl, AllTo.zero _ _⟩
    case round =>
      obtain ⟨k, hk, rfl, hup⟩ := hrel
      by_cases hlt : k < n
      · obtain ⟨b, o, s, rfl, hb, hx, hc⟩ := hs.flat_at Access.cells_length (by omega) hlt
        obtain ⟨f0, f1, f2⟩ := s
        have c0 := hc 0 (by omega)
        have c1 := hc 1 (by omega)
        simp only [Access.cells, List.getElem?_cons_zero, List.getElem?_cons_succ, Nat.add_zero] at c0 c1
        have HX := Lib.hid hx
        have HU := Lib.hid hup
        clear hx hup hc
        by_cases h0 : 0 ≤ f0 ∧ f0 ≤ 8
        · have d0 : decide (0 ≤ f0 ∧ f0 ≤ 8) = true := by simpa using h0
          by_cases h1 : 0 ≤ f1 ∧ f1 ≤ 7
          · have d1 : decide (0 ≤ f1 ∧ f1 ≤ 7) = true := by simpa using h1
            go_wp2_with (first | (go_at_call 44; refine (l1In_any _ _ _ _).mono ?_; rintro e w' ⟨rfl, rfl⟩) | (go_at_call 45; refine (l3Cell_any _ _).mono ?_; rintro e w' ⟨rfl, rfl⟩))
            go_round
            case rel => exact ⟨k + 1, by omega, by go_num, HU.out.succ HX.out ⟨h0, h1⟩⟩
            case measure => simp [intOf]; omega
          · have d1 : decide (0 ≤ f1 ∧ f1 ≤ 7) = false := by simpa using h1
            go_wp2_with (first | (go_at_call 44; refine (l1In_any _ _ _ _).mono ?_; rintro e w' ⟨rfl, rfl⟩) | (go_at_call 45; refine (l3Cell_any _ _).mono ?_; rintro e w' ⟨rfl, rfl⟩))
            go_ret
            exact ⟨by rw [accOk, dec_no fun h => AllTo.not HX.out (by rw [H.out]; exact hlt) (fun q => h1 q.2) h.2]; rfl, Ext.refl' _⟩
        · have d0 : decide (0 ≤ f0 ∧ f0 ≤ 8) = false := by simpa using h0
          go_wp2_with (first | (go_at_call 44; refine (l1In_any _ _ _ _).mono ?_; rintro e w' ⟨rfl, rfl⟩) | (go_at_call 45; refine (l3Cell_any _ _).mono ?_; rintro e w' ⟨rfl, rfl⟩))
          go_ret
          exact ⟨by rw [accOk, dec_no fun h => AllTo.not HX.out (by rw [H.out]; exact hlt) (fun q => h0 q.1) h.2]; rfl, Ext.refl' _⟩
      · go_wp2
        go_ret
        have e : k = l.length := by rw [H.out]; omega
        exact ⟨by rw [accOk, dec_yes ⟨by rw [H.out]; exact h60, by rw [← e]; exact hup⟩]; rfl, Ext.refl' _⟩
  · go_enter Try.func13, Try.ntmps13
    go_wp2
    go_ret
    exact ⟨by rw [accOk, dec_no fun h => h60 (by rw [← H.out]; exact h.1)]; rfl, Ext.refl' _⟩

set_option maxHeartbeats 1000000 in
theorem impl_AccessOk (A : Option Addr) (n c : Nat) (l : List Access) (w : World) (S : Nat → Prop) (hs : Sl w S 3 A n (l.flatMap Access.cells)) (hm : n ≤ 1048576) :
    Calls Try.prog 15 #[.slice A n c] w fun e w' => e = .returned (.bool (accOk l)) ∧ Ext w w' := by
  have H := Lib.hid (hs.flen Access.cells_length (by omega))
  go_enter Try.func15, Try.ntmps15
  go_wp2
  go_loopw [7] (fun i wr => ∃ k : Nat, k ≤ n ∧ i = .int .i64 k ∧ AllTo Access.ok l k ∧ Ext w wr) (fun i _ => n - (intOf i).toNat)
  case atStart => exact ⟨0, Nat.zero_le _, rfl, AllTo.zero _ _, Ext.refl' _⟩
  case round =>
    obtain ⟨k, hk, rfl, hup, hx⟩ := hrel
    have HE := Lib.hid hx
    by_cases hlt : k < n
    · obtain ⟨b, o, s, rfl, hb, hx, hc⟩ := (hs.ext hx).flat_at Access.cells_length (by omega) hlt
      obtain ⟨f0, f1, f2⟩ := s
      have c0 := hc 0 (by omega)
      have c1 := hc 1 (by omega)
      have c2 := hc 2 (by omega)
      simp only [Access.cells, List.getElem?_cons_zero, List.getElem?_cons_succ, Nat.add_zero] at c0 c1 c2
      have HX := Lib.hid hx
      have HU := Lib.hid hup
      clear hx hup hc
      by_cases h0 : 0 ≤ f0 ∧ f0 ≤ 8
      · have d0 : decide (0 ≤ f0 ∧ f0 ≤ 8) = true := by simpa using h0
        by_cases h1 : 0 ≤ f1 ∧ f1 ≤ 7
        · have d1 : decide (0 ≤ f1 ∧ f1 ≤ 7) = true := by simpa using h1
          go_wp2_with (first | (go_at_call 47; refine (within_any _ _ _ _).mono ?_; rintro e w' ⟨rfl, rfl⟩) | (go_at_call 48; refine (isCell_any _ _).mono ?_; rintro e w' ⟨rfl, rfl⟩))
          go_roundw
          case rel => exact ⟨k + 1, by omega, by go_num, HU.out.succ HX.out ⟨h0, h1⟩, HE.out.al _⟩
          case measure => simp [intOf]; omega
        · have d1 : decide (0 ≤ f1 ∧ f1 ≤ 7) = false := by simpa using h1
          go_wp2_with (first | (go_at_call 47; refine (within_any _ _ _ _).mono ?_; rintro e w' ⟨rfl, rfl⟩) | (go_at_call 48; refine (isCell_any _ _).mono ?_; rintro e w' ⟨rfl, rfl⟩))
          go_ret
          exact ⟨by rw [accOk, dec_no fun h => AllTo.not HX.out (by rw [H.out]; exact hlt) (fun q => h1 q.2) h.2]; rfl, HE.out.al _⟩
      · have d0 : decide (0 ≤ f0 ∧ f0 ≤ 8) = false := by simpa using h0
        go_wp2_with (first | (go_at_call 47; refine (within_any _ _ _ _).mono ?_; rintro e w' ⟨rfl, rfl⟩) | (go_at_call 48; refine (isCell_any _ _).mono ?_; rintro e w' ⟨rfl, rfl⟩))
        go_ret
        exact ⟨by rw [accOk, dec_no fun h => AllTo.not HX.out (by rw [H.out]; exact hlt) (fun q => h0 q.1) h.2]; rfl, HE.out.al _⟩
    · have e : k = n := by omega
      have HU : AllTo Access.ok l l.length := by rw [H.out, ← e]; exact hup
      clear e hup hx
      by_cases h60 : n ≤ 60
      · have h60' : (n : Int) ≤ 60 := by omega
        go_wp2
        go_ret
        exact ⟨by rw [accOk, dec_yes ⟨by rw [H.out]; exact h60, HU⟩]; simp, HE.out⟩
      · have h60' : ¬ (n : Int) ≤ 60 := by omega
        go_wp2
        go_ret
        exact ⟨by rw [accOk, dec_no fun h => h60 (by rw [← H.out]; exact h.1)]; simp, HE.out⟩

set_option maxHeartbeats 4000000 in
theorem law_AccessOk (A0 : Option Addr) (n0 c0 : Nat) (l0 : List Access) (w : World) (hs0 : Sl w (fun _ => True) 3 A0 n0 (l0.flatMap Access.cells)) (hm0 : n0 ≤ 9223372036854775807) :
    Calls Try.prog 3 #[.slice A0 n0 c0] w fun e w' => e = .returned (.bool true) ∧ Ext w w' := by
  by_cases hn0 : (n0 : Int) ≤ (1048576 : Int)
  rotate_left
  · go_enter Try.func3, Try.ntmps3
    go_wp2_with fail
    refine (szAccessS_any _ _ _ _ _ (by omega) (by omega) hm0).mono ?_
    rintro e w' ⟨rfl, rfl⟩
    rw [if_neg (by omega)]
    go_wp2
    go_ret
    exact ⟨rfl, Ext.refl' _⟩
  have hN0 : n0 ≤ 1048576 := by omega
  go_enter Try.func3, Try.ntmps3
  go_wp2_with fail
  refine (szAccessS_any _ _ _ _ _ (by omega) (by omega) hm0).mono ?_
  rintro e w' ⟨rfl, rfl⟩
  rw [if_pos (by omega)]
  go_wp2_with fail
  refine (toAccessS_any _ _ _ _ _ _ hs0 hN0).mono ?_
  rintro e w1 ⟨B1, d1, rfl, o1, x1⟩
  replace hs0 := hs0.ext x1
  have xx := x1
  have z1 : w.heap.size ≤ w1.heap.size := x1.size
  have r1 := Lib.hid o1.lt
  go_wp2_with fail
  refine (spec_AccessOk _ _ _ _ _ _ (ownSl o1) hN0).mono ?_
  rintro e w2 ⟨rfl, x2⟩
  replace o1 := own_ext o1 x2
  replace hs0 := hs0.ext x2
  replace xx := xx.tr x2
  have z2 : w1.heap.size ≤ w2.heap.size := x2.size
  go_wp2_with fail
  refine (toAccessS_any _ _ _ _ _ _ hs0 hN0).mono ?_
  rintro e w3 ⟨B3, d3, rfl, o3, x3⟩
  replace hs0 := hs0.ext x3
  replace xx := xx.tr x3
  have z3 : w2.heap.size ≤ w3.heap.size := x3.size
  have r3 := Lib.hid o3.lt
  go_wp2_with fail
  refine (impl_AccessOk _ _ _ _ _ _ (ownSl o3) hN0).mono ?_
  rintro e w4 ⟨rfl, x4⟩
  replace o3 := own_ext o3 x4
  replace hs0 := hs0.ext x4
  replace xx := xx.tr x4
  have z4 : w3.heap.size ≤ w4.heap.size := x4.size
  go_wp2_with fail
  refine (toAccessS_any _ _ _ _ _ _ hs0 hN0).mono ?_
  rintro e w5 ⟨B5, d5, rfl, o5, x5⟩
  replace o3 := own_ext o3 x5
  replace hs0 := hs0.ext x5
  replace xx := xx.tr x5
  have z5 : w4.heap.size ≤ w5.heap.size := x5.size
  have r5 := Lib.hid o5.lt
  go_wp2_with fail
  refine (eqAccessS_same _ _ _ _ _ _ _ _ _ (ownSl o3) (ownSl o5) (by omega)).mono ?_
  rintro e w6 ⟨rfl, x6⟩
  replace o3 := own_ext o3 x6
  replace o5 := own_ext o5 x6
  replace hs0 := hs0.ext x6
  replace xx := xx.tr x6
  have z6 : w5.heap.size ≤ w6.heap.size := x6.size
  go_wp2
  go_ret
  exact ⟨rfl, xx⟩
end Go.Proofs.Ytheclckjgjaecaa
