/- RowsOk of program and reference. No condition but the length. -/
import Derived.Test.YtnhkjgnfjphllaaVersT
import Derived.Test.YtnhkjgnfjphllaaRange
namespace Go.Proofs.Ytnhkjgnfjphllaa
open Go.RowKit Go.Deep
set_option linter.unusedSimpArgs false
set_option linter.unusedVariables false

def Row.ok (_ : Nat) (a : Row) : Prop := (0 ≤ a.cell ∧ a.cell ≤ 7) ∧ (0 ≤ a.val ∧ a.val ≤ 65535)
noncomputable def rowsOk (l : List Row) : Bool := dec (l.length ≤ 300 ∧ AllTo Row.ok l l.length)

set_option maxHeartbeats 4000000 in
theorem spec_RowsOk (A : Option Addr) (n c : Nat) (l : List Row) (w : World) (S : Nat → Prop) (hs : Sl w S 2 A n (l.flatMap Row.cells)) (hm : n ≤ 1048576) :
    Calls Try.prog 66 #[.slice A n c] w fun e w' => e = .returned (.bool (rowsOk l)) ∧ Ext w w' := by
  have H := Lib.hid (hs.flen Row.cells_length (by omega))
  by_cases h60 : n ≤ 300
  rotate_left
  · go_enter Try.func66, Try.ntmps66
    go_wp2
    go_ret
    exact ⟨by rw [rowsOk, dec_no fun h => h60 (by rw [← H.out]; exact h.1)]; rfl, Ext.refl' _⟩
  go_enter Try.func66, Try.ntmps66
  go_wp2
  go_loopw [3] (fun i wr => ∃ k : Nat, k ≤ n ∧ i = .int .i64 k ∧ AllTo Row.ok l k ∧ Ext w wr) (fun i _ => n - (intOf i).toNat)
  case atStart => exact ⟨0, Nat.zero_le _, rfl, AllTo.zero _ _, Ext.refl' _⟩
  case round =>
    obtain ⟨k, hk, rfl, hup, hxx⟩ := hrel
    by_cases hlt : k < n
    · obtain ⟨b, o, s, rfl, hb, hx, hc⟩ := (hs.ext hxx).flat_at Row.cells_length (by omega) hlt
      obtain ⟨f0, f1⟩ := s
      have c0 := hc 0 (by omega)
      have c1 := hc 1 (by omega)
      simp only [Row.cells, List.getElem?_cons_zero, List.getElem?_cons_succ, Nat.add_zero] at c0 c1
      have HX := Lib.hid hx
      have HU := Lib.hid hup
      have HE := Lib.hid hxx
      clear hx hup hc hxx
      by_cases h0 : 0 ≤ f0 ∧ f0 ≤ 7
      rotate_left
      · have d0 : decide (0 ≤ f0 ∧ f0 ≤ 7) = false := by simpa using h0
        go_wp2_with (first | (go_at_call 55; refine (l3Cell_any _ _).mono ?_; rintro e w' ⟨rfl, rfl⟩) | (go_at_call 56; refine (l3Val_any _ _).mono ?_; rintro e w' ⟨rfl, rfl⟩))
        go_ret
        exact ⟨by rw [rowsOk, dec_no fun h => AllTo.not HX.out (by rw [H.out]; exact hlt) (fun q => h0 q.1) h.2]; rfl, by first | exact HE.out | exact HE.out.al _⟩
      have d0 : decide (0 ≤ f0 ∧ f0 ≤ 7) = true := by simpa using h0
      by_cases h1 : 0 ≤ f1 ∧ f1 ≤ 65535
      rotate_left
      · have d1 : decide (0 ≤ f1 ∧ f1 ≤ 65535) = false := by simpa using h1
        go_wp2_with (first | (go_at_call 55; refine (l3Cell_any _ _).mono ?_; rintro e w' ⟨rfl, rfl⟩) | (go_at_call 56; refine (l3Val_any _ _).mono ?_; rintro e w' ⟨rfl, rfl⟩))
        go_ret
        exact ⟨by rw [rowsOk, dec_no fun h => AllTo.not HX.out (by rw [H.out]; exact hlt) (fun q => h1 q.2) h.2]; rfl, by first | exact HE.out | exact HE.out.al _⟩
      have d1 : decide (0 ≤ f1 ∧ f1 ≤ 65535) = true := by simpa using h1
      go_wp2_with (first | (go_at_call 55; refine (l3Cell_any _ _).mono ?_; rintro e w' ⟨rfl, rfl⟩) | (go_at_call 56; refine (l3Val_any _ _).mono ?_; rintro e w' ⟨rfl, rfl⟩))
      go_roundw
      case rel => exact ⟨k + 1, by omega, by go_num, HU.out.succ HX.out ⟨h0, h1⟩, by first | exact HE.out | exact HE.out.al _⟩
      case measure => simp [intOf]; omega
    · go_wp2
      go_ret
      have e : k = l.length := by rw [H.out]; omega
      exact ⟨by rw [rowsOk, dec_yes ⟨by rw [H.out]; exact h60, by rw [← e]; exact hup⟩]; rfl, hxx⟩
set_option maxHeartbeats 4000000 in
theorem impl_RowsOk (A : Option Addr) (n c : Nat) (l : List Row) (w : World) (S : Nat → Prop) (hs : Sl w S 2 A n (l.flatMap Row.cells)) (hm : n ≤ 1048576) :
    Calls Try.prog 71 #[.slice A n c] w fun e w' => e = .returned (.bool (rowsOk l)) ∧ Ext w w' := by
  have H := Lib.hid (hs.flen Row.cells_length (by omega))
  go_enter Try.func71, Try.ntmps71
  go_wp2
  go_loopw [7] (fun i wr => ∃ k : Nat, k ≤ n ∧ i = .int .i64 k ∧ AllTo Row.ok l k ∧ Ext w wr) (fun i _ => n - (intOf i).toNat)
  case atStart => exact ⟨0, Nat.zero_le _, rfl, AllTo.zero _ _, Ext.refl' _⟩
  case round =>
    obtain ⟨k, hk, rfl, hup, hxx⟩ := hrel
    by_cases hlt : k < n
    · obtain ⟨b, o, s, rfl, hb, hx, hc⟩ := (hs.ext hxx).flat_at Row.cells_length (by omega) hlt
      obtain ⟨f0, f1⟩ := s
      have c0 := hc 0 (by omega)
      have c1 := hc 1 (by omega)
      simp only [Row.cells, List.getElem?_cons_zero, List.getElem?_cons_succ, Nat.add_zero] at c0 c1
      have HX := Lib.hid hx
      have HU := Lib.hid hup
      have HE := Lib.hid hxx
      clear hx hup hc hxx
      by_cases h0 : 0 ≤ f0 ∧ f0 ≤ 7
      rotate_left
      · have d0 : decide (0 ≤ f0 ∧ f0 ≤ 7) = false := by simpa using h0
        go_wp2_with (first | (go_at_call 59; refine (isCell_any _ _).mono ?_; rintro e w' ⟨rfl, rfl⟩) | (go_at_call 60; refine (isValue_any _ _).mono ?_; rintro e w' ⟨rfl, rfl⟩))
        go_ret
        exact ⟨by rw [rowsOk, dec_no fun h => AllTo.not HX.out (by rw [H.out]; exact hlt) (fun q => h0 q.1) h.2]; rfl, by first | exact HE.out | exact HE.out.al _⟩
      have d0 : decide (0 ≤ f0 ∧ f0 ≤ 7) = true := by simpa using h0
      by_cases h1 : 0 ≤ f1 ∧ f1 ≤ 65535
      rotate_left
      · have d1 : decide (0 ≤ f1 ∧ f1 ≤ 65535) = false := by simpa using h1
        go_wp2_with (first | (go_at_call 59; refine (isCell_any _ _).mono ?_; rintro e w' ⟨rfl, rfl⟩) | (go_at_call 60; refine (isValue_any _ _).mono ?_; rintro e w' ⟨rfl, rfl⟩))
        go_ret
        exact ⟨by rw [rowsOk, dec_no fun h => AllTo.not HX.out (by rw [H.out]; exact hlt) (fun q => h1 q.2) h.2]; rfl, by first | exact HE.out | exact HE.out.al _⟩
      have d1 : decide (0 ≤ f1 ∧ f1 ≤ 65535) = true := by simpa using h1
      go_wp2_with (first | (go_at_call 59; refine (isCell_any _ _).mono ?_; rintro e w' ⟨rfl, rfl⟩) | (go_at_call 60; refine (isValue_any _ _).mono ?_; rintro e w' ⟨rfl, rfl⟩))
      go_roundw
      case rel => exact ⟨k + 1, by omega, by go_num, HU.out.succ HX.out ⟨h0, h1⟩, by first | exact HE.out | exact HE.out.al _⟩
      case measure => simp [intOf]; omega
    · have e : k = n := by omega
      have HU : AllTo Row.ok l l.length := by rw [H.out, ← e]; exact hup
      have HE := Lib.hid hxx
      clear e hup hxx
      by_cases h60 : n ≤ 300
      · have h60' : (n : Int) ≤ 300 := by omega
        go_wp2
        go_ret
        exact ⟨by rw [rowsOk, dec_yes ⟨by rw [H.out]; exact h60, HU⟩]; simp, HE.out⟩
      · have h60' : ¬ (n : Int) ≤ 300 := by omega
        go_wp2
        go_ret
        exact ⟨by rw [rowsOk, dec_no fun h => h60 (by rw [← H.out]; exact h.1)]; simp, HE.out⟩
end Go.Proofs.Ytnhkjgnfjphllaa
