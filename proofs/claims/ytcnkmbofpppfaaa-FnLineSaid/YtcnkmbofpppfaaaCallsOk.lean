/- CallsOk of program and reference; the contract of laws.FnExactCallsOk. No condition. -/
import Derived.Test.YtcnkmbofpppfaaaCallDo
namespace Go.Proofs.Ytcnkmbofpppfaaa
open Go.RowKit Go.Deep

def Call.ok (_ : Nat) (a : Call) : Prop := (0 ≤ a.from_ ∧ a.from_ ≤ 1000) ∧ (a.from_ ≤ a.to_ ∧ a.to_ ≤ 1000) ∧ (1 ≤ a.kind ∧ a.kind ≤ 4) ∧ (0 ≤ a.arg ∧ a.arg ≤ 65535) ∧ (0 ≤ a.ret ∧ a.ret ≤ 65535)
noncomputable def callsOk (l : List Call) : Bool := dec (l.length ≤ 7 ∧ AllTo Call.ok l l.length)

set_option maxHeartbeats 4000000 in
theorem spec_CallsOk (A : Option Addr) (n c : Nat) (l : List Call) (w : World) (S : Nat → Prop) (hs : Sl w S 5 A n (l.flatMap Call.cells)) (hm : n ≤ 1048576) :
    Calls Try.prog 14 #[.slice A n c] w fun e w' => e = .returned (.bool (callsOk l)) ∧ Ext w w' := by
  have H := Lib.hid (hs.flen Call.cells_length (by omega))
  by_cases h60 : n ≤ 7
  rotate_left
  · go_enter Try.func14, Try.ntmps14
    go_wp2
    go_ret
    exact ⟨by rw [callsOk, dec_no fun h => h60 (by rw [← H.out]; exact h.1)]; rfl, Ext.refl' _⟩
  go_enter Try.func14, Try.ntmps14
  go_wp2
  go_loopw [3] (fun i wr => ∃ k : Nat, k ≤ n ∧ i = .int .i64 k ∧ AllTo Call.ok l k ∧ Ext w wr) (fun i _ => n - (intOf i).toNat)
  case atStart => exact ⟨0, Nat.zero_le _, rfl, AllTo.zero _ _, Ext.refl' _⟩
  case round =>
    obtain ⟨k, hk, rfl, hup, hxx⟩ := hrel
    by_cases hlt : k < n
    · obtain ⟨b, o, s, rfl, hb, hx, hc⟩ := (hs.ext hxx).flat_at Call.cells_length (by omega) hlt
      obtain ⟨f0, f1, f2, f3, f4⟩ := s
      have c0 := hc 0 (by omega)
      have c1 := hc 1 (by omega)
      have c2 := hc 2 (by omega)
      have c3 := hc 3 (by omega)
      have c4 := hc 4 (by omega)
      simp only [Call.cells, List.getElem?_cons_zero, List.getElem?_cons_succ, Nat.add_zero] at c0 c1 c2 c3 c4
      have HX := Lib.hid hx
      have HU := Lib.hid hup
      have HE := Lib.hid hxx
      clear hx hup hc hxx
      by_cases h0 : 0 ≤ f0 ∧ f0 ≤ 1000
      rotate_left
      · have d0 : decide (0 ≤ f0 ∧ f0 ≤ 1000) = false := by simpa using h0
        go_wp2_with (first | (go_at_call 38; refine (l1In_any _ _ _ _).mono ?_; rintro e w' ⟨rfl, rfl⟩) | (go_at_call 36; refine (l3Val_any _ _).mono ?_; rintro e w' ⟨rfl, rfl⟩))
        go_ret
        exact ⟨by rw [callsOk, dec_no fun h => AllTo.not HX.out (by rw [H.out]; exact hlt) (fun q => h0 q.1) h.2]; rfl, by first | exact HE.out | exact HE.out.al _⟩
      have d0 : decide (0 ≤ f0 ∧ f0 ≤ 1000) = true := by simpa using h0
      by_cases h1 : f0 ≤ f1 ∧ f1 ≤ 1000
      rotate_left
      · have d1 : decide (f0 ≤ f1 ∧ f1 ≤ 1000) = false := by simpa using h1
        go_wp2_with (first | (go_at_call 38; refine (l1In_any _ _ _ _).mono ?_; rintro e w' ⟨rfl, rfl⟩) | (go_at_call 36; refine (l3Val_any _ _).mono ?_; rintro e w' ⟨rfl, rfl⟩))
        go_ret
        exact ⟨by rw [callsOk, dec_no fun h => AllTo.not HX.out (by rw [H.out]; exact hlt) (fun q => h1 q.2.1) h.2]; rfl, by first | exact HE.out | exact HE.out.al _⟩
      have d1 : decide (f0 ≤ f1 ∧ f1 ≤ 1000) = true := by simpa using h1
      by_cases h2 : 1 ≤ f2 ∧ f2 ≤ 4
      rotate_left
      · have d2 : decide (1 ≤ f2 ∧ f2 ≤ 4) = false := by simpa using h2
        go_wp2_with (first | (go_at_call 38; refine (l1In_any _ _ _ _).mono ?_; rintro e w' ⟨rfl, rfl⟩) | (go_at_call 36; refine (l3Val_any _ _).mono ?_; rintro e w' ⟨rfl, rfl⟩))
        go_ret
        exact ⟨by rw [callsOk, dec_no fun h => AllTo.not HX.out (by rw [H.out]; exact hlt) (fun q => h2 q.2.2.1) h.2]; rfl, by first | exact HE.out | exact HE.out.al _⟩
      have d2 : decide (1 ≤ f2 ∧ f2 ≤ 4) = true := by simpa using h2
      by_cases h3 : 0 ≤ f3 ∧ f3 ≤ 65535
      rotate_left
      · have d3 : decide (0 ≤ f3 ∧ f3 ≤ 65535) = false := by simpa using h3
        go_wp2_with (first | (go_at_call 38; refine (l1In_any _ _ _ _).mono ?_; rintro e w' ⟨rfl, rfl⟩) | (go_at_call 36; refine (l3Val_any _ _).mono ?_; rintro e w' ⟨rfl, rfl⟩))
        go_ret
        exact ⟨by rw [callsOk, dec_no fun h => AllTo.not HX.out (by rw [H.out]; exact hlt) (fun q => h3 q.2.2.2.1) h.2]; rfl, by first | exact HE.out | exact HE.out.al _⟩
      have d3 : decide (0 ≤ f3 ∧ f3 ≤ 65535) = true := by simpa using h3
      by_cases h4 : 0 ≤ f4 ∧ f4 ≤ 65535
      rotate_left
      · have d4 : decide (0 ≤ f4 ∧ f4 ≤ 65535) = false := by simpa using h4
        go_wp2_with (first | (go_at_call 38; refine (l1In_any _ _ _ _).mono ?_; rintro e w' ⟨rfl, rfl⟩) | (go_at_call 36; refine (l3Val_any _ _).mono ?_; rintro e w' ⟨rfl, rfl⟩))
        go_ret
        exact ⟨by rw [callsOk, dec_no fun h => AllTo.not HX.out (by rw [H.out]; exact hlt) (fun q => h4 q.2.2.2.2) h.2]; rfl, by first | exact HE.out | exact HE.out.al _⟩
      have d4 : decide (0 ≤ f4 ∧ f4 ≤ 65535) = true := by simpa using h4
      go_wp2_with (first | (go_at_call 38; refine (l1In_any _ _ _ _).mono ?_; rintro e w' ⟨rfl, rfl⟩) | (go_at_call 36; refine (l3Val_any _ _).mono ?_; rintro e w' ⟨rfl, rfl⟩))
      go_roundw
      case rel => exact ⟨k + 1, by omega, by go_num, HU.out.succ HX.out ⟨h0, h1, h2, h3, h4⟩, by first | exact HE.out | exact HE.out.al _⟩
      case measure => simp [intOf]; omega
    · go_wp2
      go_ret
      have e : k = l.length := by rw [H.out]; omega
      exact ⟨by rw [callsOk, dec_yes ⟨by rw [H.out]; exact h60, by rw [← e]; exact hup⟩]; rfl, hxx⟩

set_option maxHeartbeats 4000000 in
theorem impl_CallsOk (A : Option Addr) (n c : Nat) (l : List Call) (w : World) (S : Nat → Prop) (hs : Sl w S 5 A n (l.flatMap Call.cells)) (hm : n ≤ 1048576) :
    Calls Try.prog 16 #[.slice A n c] w fun e w' => e = .returned (.bool (callsOk l)) ∧ Ext w w' := by
  have H := Lib.hid (hs.flen Call.cells_length (by omega))
  go_enter Try.func16, Try.ntmps16
  go_wp2
  go_loopw [7] (fun i wr => ∃ k : Nat, k ≤ n ∧ i = .int .i64 k ∧ AllTo Call.ok l k ∧ Ext w wr) (fun i _ => n - (intOf i).toNat)
  case atStart => exact ⟨0, Nat.zero_le _, rfl, AllTo.zero _ _, Ext.refl' _⟩
  case round =>
    obtain ⟨k, hk, rfl, hup, hxx⟩ := hrel
    by_cases hlt : k < n
    · obtain ⟨b, o, s, rfl, hb, hx, hc⟩ := (hs.ext hxx).flat_at Call.cells_length (by omega) hlt
      obtain ⟨f0, f1, f2, f3, f4⟩ := s
      have c0 := hc 0 (by omega)
      have c1 := hc 1 (by omega)
      have c2 := hc 2 (by omega)
      have c3 := hc 3 (by omega)
      have c4 := hc 4 (by omega)
      simp only [Call.cells, List.getElem?_cons_zero, List.getElem?_cons_succ, Nat.add_zero] at c0 c1 c2 c3 c4
      have HX := Lib.hid hx
      have HU := Lib.hid hup
      have HE := Lib.hid hxx
      clear hx hup hc hxx
      by_cases h0 : 0 ≤ f0 ∧ f0 ≤ 1000
      rotate_left
      · have d0 : decide (0 ≤ f0 ∧ f0 ≤ 1000) = false := by simpa using h0
        go_wp2_with (first | (go_at_call 39; refine (within_any _ _ _ _).mono ?_; rintro e w' ⟨rfl, rfl⟩) | (go_at_call 37; refine (isValue_any _ _).mono ?_; rintro e w' ⟨rfl, rfl⟩))
        go_ret
        exact ⟨by rw [callsOk, dec_no fun h => AllTo.not HX.out (by rw [H.out]; exact hlt) (fun q => h0 q.1) h.2]; rfl, by first | exact HE.out | exact HE.out.al _⟩
      have d0 : decide (0 ≤ f0 ∧ f0 ≤ 1000) = true := by simpa using h0
      by_cases h1 : f0 ≤ f1 ∧ f1 ≤ 1000
      rotate_left
      · have d1 : decide (f0 ≤ f1 ∧ f1 ≤ 1000) = false := by simpa using h1
        go_wp2_with (first | (go_at_call 39; refine (within_any _ _ _ _).mono ?_; rintro e w' ⟨rfl, rfl⟩) | (go_at_call 37; refine (isValue_any _ _).mono ?_; rintro e w' ⟨rfl, rfl⟩))
        go_ret
        exact ⟨by rw [callsOk, dec_no fun h => AllTo.not HX.out (by rw [H.out]; exact hlt) (fun q => h1 q.2.1) h.2]; rfl, by first | exact HE.out | exact HE.out.al _⟩
      have d1 : decide (f0 ≤ f1 ∧ f1 ≤ 1000) = true := by simpa using h1
      by_cases h2 : 1 ≤ f2 ∧ f2 ≤ 4
      rotate_left
      · have d2 : decide (1 ≤ f2 ∧ f2 ≤ 4) = false := by simpa using h2
        go_wp2_with (first | (go_at_call 39; refine (within_any _ _ _ _).mono ?_; rintro e w' ⟨rfl, rfl⟩) | (go_at_call 37; refine (isValue_any _ _).mono ?_; rintro e w' ⟨rfl, rfl⟩))
        go_ret
        exact ⟨by rw [callsOk, dec_no fun h => AllTo.not HX.out (by rw [H.out]; exact hlt) (fun q => h2 q.2.2.1) h.2]; rfl, by first | exact HE.out | exact HE.out.al _⟩
      have d2 : decide (1 ≤ f2 ∧ f2 ≤ 4) = true := by simpa using h2
      by_cases h3 : 0 ≤ f3 ∧ f3 ≤ 65535
      rotate_left
      · have d3 : decide (0 ≤ f3 ∧ f3 ≤ 65535) = false := by simpa using h3
        go_wp2_with (first | (go_at_call 39; refine (within_any _ _ _ _).mono ?_; rintro e w' ⟨rfl, rfl⟩) | (go_at_call 37; refine (isValue_any _ _).mono ?_; rintro e w' ⟨rfl, rfl⟩))
        go_ret
        exact ⟨by rw [callsOk, dec_no fun h => AllTo.not HX.out (by rw [H.out]; exact hlt) (fun q => h3 q.2.2.2.1) h.2]; rfl, by first | exact HE.out | exact HE.out.al _⟩
      have d3 : decide (0 ≤ f3 ∧ f3 ≤ 65535) = true := by simpa using h3
      by_cases h4 : 0 ≤ f4 ∧ f4 ≤ 65535
      rotate_left
      · have d4 : decide (0 ≤ f4 ∧ f4 ≤ 65535) = false := by simpa using h4
        go_wp2_with (first | (go_at_call 39; refine (within_any _ _ _ _).mono ?_; rintro e w' ⟨rfl, rfl⟩) | (go_at_call 37; refine (isValue_any _ _).mono ?_; rintro e w' ⟨rfl, rfl⟩))
        go_ret
        exact ⟨by rw [callsOk, dec_no fun h => AllTo.not HX.out (by rw [H.out]; exact hlt) (fun q => h4 q.2.2.2.2) h.2]; rfl, by first | exact HE.out | exact HE.out.al _⟩
      have d4 : decide (0 ≤ f4 ∧ f4 ≤ 65535) = true := by simpa using h4
      go_wp2_with (first | (go_at_call 39; refine (within_any _ _ _ _).mono ?_; rintro e w' ⟨rfl, rfl⟩) | (go_at_call 37; refine (isValue_any _ _).mono ?_; rintro e w' ⟨rfl, rfl⟩))
      go_roundw
      case rel => exact ⟨k + 1, by omega, by go_num, HU.out.succ HX.out ⟨h0, h1, h2, h3, h4⟩, by first | exact HE.out | exact HE.out.al _⟩
      case measure => simp [intOf]; omega
    · have e : k = n := by omega
      have HU : AllTo Call.ok l l.length := by rw [H.out, ← e]; exact hup
      have HE := Lib.hid hxx
      clear e hup hxx
      by_cases h60 : n ≤ 7
      · have h60' : (n : Int) ≤ 7 := by omega
        go_wp2
        go_ret
        exact ⟨by rw [callsOk, dec_yes ⟨by rw [H.out]; exact h60, HU⟩]; simp, HE.out⟩
      · have h60' : ¬ (n : Int) ≤ 7 := by omega
        go_wp2
        go_ret
        exact ⟨by rw [callsOk, dec_no fun h => h60 (by rw [← H.out]; exact h.1)]; simp, HE.out⟩

set_option maxHeartbeats 4000000 in
theorem law_CallsOk (A0 : Option Addr) (n0 c0 : Nat) (l0 : List Call) (w : World) (hs0 : Sl w (fun _ => True) 5 A0 n0 (l0.flatMap Call.cells)) (hm0 : n0 ≤ 9223372036854775807) :
    Calls Try.prog 4 #[.slice A0 n0 c0] w fun e w' => e = .returned (.bool true) ∧ Ext w w' := by
  by_cases hn0 : (n0 : Int) ≤ (1048576 : Int)
  rotate_left
  · go_enter Try.func4, Try.ntmps4
    go_wp2_with fail
    refine (szCallS_any _ _ _ _ _ (by omega) (by omega) hm0).mono ?_
    rintro e w' ⟨rfl, rfl⟩
    rw [if_neg (by omega)]
    go_wp2
    go_ret
    exact ⟨rfl, Ext.refl' _⟩
  have hN0 : n0 ≤ 1048576 := by omega
  go_enter Try.func4, Try.ntmps4
  go_wp2_with fail
  refine (szCallS_any _ _ _ _ _ (by omega) (by omega) hm0).mono ?_
  rintro e w' ⟨rfl, rfl⟩
  rw [if_pos (by omega)]
  go_wp2_with fail
  refine (toCallS_any _ _ _ _ _ _ hs0 hN0).mono ?_
  rintro e w1 ⟨B1, d1, rfl, o1, x1⟩
  replace hs0 := hs0.ext x1
  have xx := x1
  have z1 : w.heap.size ≤ w1.heap.size := x1.size
  have r1 := Lib.hid o1.lt
  go_wp2_with fail
  refine (spec_CallsOk _ _ _ _ _ _ (ownSl o1) hN0).mono ?_
  rintro e w2 ⟨rfl, x2⟩
  replace o1 := own_ext o1 x2
  replace hs0 := hs0.ext x2
  replace xx := xx.tr x2
  have z2 : w1.heap.size ≤ w2.heap.size := x2.size
  go_wp2_with fail
  refine (toCallS_any _ _ _ _ _ _ hs0 hN0).mono ?_
  rintro e w3 ⟨B3, d3, rfl, o3, x3⟩
  replace hs0 := hs0.ext x3
  replace xx := xx.tr x3
  have z3 : w2.heap.size ≤ w3.heap.size := x3.size
  have r3 := Lib.hid o3.lt
  go_wp2_with fail
  refine (impl_CallsOk _ _ _ _ _ _ (ownSl o3) hN0).mono ?_
  rintro e w4 ⟨rfl, x4⟩
  replace o3 := own_ext o3 x4
  replace hs0 := hs0.ext x4
  replace xx := xx.tr x4
  have z4 : w3.heap.size ≤ w4.heap.size := x4.size
  go_wp2_with fail
  refine (toCallS_any _ _ _ _ _ _ hs0 hN0).mono ?_
  rintro e w5 ⟨B5, d5, rfl, o5, x5⟩
  replace o3 := own_ext o3 x5
  replace hs0 := hs0.ext x5
  replace xx := xx.tr x5
  have z5 : w4.heap.size ≤ w5.heap.size := x5.size
  have r5 := Lib.hid o5.lt
  go_wp2_with fail
  refine (eqCallS_same _ _ _ _ _ _ _ _ _ (ownSl o3) (ownSl o5) (by omega)).mono ?_
  rintro e w6 ⟨rfl, x6⟩
  replace o3 := own_ext o3 x6
  replace o5 := own_ext o5 x6
  replace hs0 := hs0.ext x6
  replace xx := xx.tr x6
  have z6 : w5.heap.size ≤ w6.heap.size := x6.size
  go_wp2
  go_ret
  exact ⟨rfl, xx⟩

end Go.Proofs.Ytcnkmbofpppfaaa
