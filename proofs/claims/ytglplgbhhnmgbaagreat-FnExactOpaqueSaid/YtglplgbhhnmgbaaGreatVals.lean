/- Eight values: l3Vals, areValues. No condition but lengths. -/
import Derived.Test.YtglplgbhhnmgbaaGreatRange
namespace Go.Proofs.YtglplgbhhnmgbaaGreat
open Go.RowKit Go.Deep

def isVal (_ : Nat) (x : Int) : Prop := 0 ≤ x ∧ x ≤ 65535
noncomputable def valsOk (l : List Int) : Bool := dec (l.length = 8 ∧ AllTo isVal l l.length)
theorem valsOk_len {l : List Int} (h : valsOk l = true) : l.length = 8 := (dec_true h).1

set_option maxHeartbeats 1000000 in
theorem l3Vals_any (A : Option Addr) (n c : Nat) (l : List Int) (w : World) (S : Nat → Prop) (hs : Sl w S 1 A n (ints l)) (hm : n ≤ 1048576) :
    Calls Tryz.prog 51 #[.slice A n c] w fun e w' => e = .returned (.bool (valsOk l)) ∧ w = w' := by
  have H := Lib.hid hs.len
  by_cases h8 : n = 8
  rotate_left
  · have b8 : ((n : Int) != 8) = true := by simp; omega
    have H8 := Lib.hid h8
    clear h8
    go_enter Tryz.func51, Tryz.ntmps51
    go_wp2
    go_ret
    exact ⟨by rw [valsOk, dec_no fun h => H8.out (by rw [← H.out]; exact h.1)]; rfl, rfl⟩
  have b8 : ((n : Int) != 8) = false := by simp; omega
  have H8 := Lib.hid h8
  clear h8
  go_enter Tryz.func51, Tryz.ntmps51
  go_wp2
  go_loop [3] (fun i => ∃ k : Nat, k ≤ n ∧ i = .int .i64 k ∧ AllTo isVal l k) (fun i => n - (intOf i).toNat)
  case atStart => exact ⟨0, Nat.zero_le _, rfl, AllTo.zero _ _⟩
  case round =>
    obtain ⟨k, hk, rfl, hup⟩ := hrel
    have HU := Lib.hid hup
    clear hup
    by_cases hlt : k < n
    · obtain ⟨b, o, x, rfl, hb, hx, hc⟩ := hs.int_at hlt
      have HX := Lib.hid hx
      clear hx
      by_cases h0 : 0 ≤ x ∧ x ≤ 65535
      · have d0 : decide (0 ≤ x ∧ x ≤ 65535) = true := by simpa using h0
        go_wp2_with (go_at_call 52; refine (l3Val_any _ _).mono ?_; rintro e w' ⟨rfl, rfl⟩)
        go_round
        case rel => exact ⟨k + 1, by omega, by go_num, HU.out.succ HX.out h0⟩
        case measure => simp [intOf]; omega
      · have d0 : decide (0 ≤ x ∧ x ≤ 65535) = false := by simpa using h0
        go_wp2_with (go_at_call 52; refine (l3Val_any _ _).mono ?_; rintro e w' ⟨rfl, rfl⟩)
        go_ret
        exact ⟨by rw [valsOk, dec_no fun h => AllTo.not HX.out (by rw [H.out]; exact hlt) h0 h.2]; rfl, rfl⟩
    · go_wp2
      go_ret
      have e : k = l.length := by rw [H.out]; omega
      exact ⟨by rw [valsOk, dec_yes ⟨by rw [H.out]; exact H8.out, by rw [← e]; exact HU.out⟩]; rfl, rfl⟩

set_option maxHeartbeats 1000000 in
theorem areValues_any (A : Option Addr) (n c : Nat) (l : List Int) (w : World) (S : Nat → Prop) (hs : Sl w S 1 A n (ints l)) (hm : n ≤ 1048576) :
    Calls Tryz.prog 65 #[.slice A n c, .int .i64 8] w fun e w' => e = .returned (.bool (valsOk l)) ∧ w = w' := by
  have H := Lib.hid hs.len
  go_enter Tryz.func65, Tryz.ntmps65
  go_wp2
  go_loop [9] (fun i => ∃ k : Nat, k ≤ n ∧ i = .int .i64 k ∧ AllTo isVal l k) (fun i => n - (intOf i).toNat)
  case atStart => exact ⟨0, Nat.zero_le _, rfl, AllTo.zero _ _⟩
  case round =>
    obtain ⟨k, hk, rfl, hup⟩ := hrel
    have HU := Lib.hid hup
    clear hup
    by_cases hlt : k < n
    · obtain ⟨b, o, x, rfl, hb, hx, hc⟩ := hs.int_at hlt
      have HX := Lib.hid hx
      clear hx
      by_cases h0 : 0 ≤ x ∧ x ≤ 65535
      · have d0 : decide (0 ≤ x ∧ x ≤ 65535) = true := by simpa using h0
        go_wp2_with (go_at_call 67; refine (isValue_any _ _).mono ?_; rintro e w' ⟨rfl, rfl⟩)
        go_round
        case rel => exact ⟨k + 1, by omega, by go_num, HU.out.succ HX.out h0⟩
        case measure => simp [intOf]; omega
      · have d0 : decide (0 ≤ x ∧ x ≤ 65535) = false := by simpa using h0
        go_wp2_with (go_at_call 67; refine (isValue_any _ _).mono ?_; rintro e w' ⟨rfl, rfl⟩)
        go_ret
        exact ⟨by rw [valsOk, dec_no fun h => AllTo.not HX.out (by rw [H.out]; exact hlt) h0 h.2]; rfl, rfl⟩
    · have e : k = l.length := by rw [H.out]; omega
      by_cases h8 : n = 8
      · have b8 : ((n : Int) == 8) = true := by simp; omega
        have HY := Lib.hid (dec_yes (p := l.length = 8 ∧ AllTo isVal l l.length) ⟨by rw [H.out]; exact h8, by rw [← e]; exact HU.out⟩)
        clear h8 e
        go_wp2
        go_ret
        exact ⟨by rw [valsOk, HY.out]; rfl, rfl⟩
      · have b8 : ((n : Int) == 8) = false := by simp; omega
        have HY := Lib.hid (dec_no (p := l.length = 8 ∧ AllTo isVal l l.length) fun h => h8 (by rw [← H.out]; exact h.1))
        clear h8 e
        go_wp2
        go_ret
        exact ⟨by rw [valsOk, HY.out]; rfl, rfl⟩
end Go.Proofs.YtglplgbhhnmgbaaGreat
