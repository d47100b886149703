/- Var of program and reference. No condition. -/
import Derived.Test.YtbclkgjjmpipfaaVarT
namespace Go.Proofs.Ytbclkgjjmpipfaa
open Go.RowKit

set_option maxHeartbeats 2000000 in
theorem impl_Var (n : Int) (w : World) :
    Calls Try.prog 39 #[.int .i64 n] w fun e w' => e = .returned (.string (varOf n)) ∧ Ext w w' := by
  by_cases hn : 0 ≤ n ∧ n ≤ 562949953421311
  rotate_left
  · have hd : decide (0 ≤ n ∧ n ≤ 562949953421311) = false := by simpa using hn
    have HN : Hid (varOf n = ⟨#[]⟩) := by unfold varOf; rw [if_neg hn]; rfl
    clear hn
    go_enter Try.func39, Try.ntmps39
    go_wp2_with (go_at_call 46; refine (within_any _ _ _ _).mono ?_; rintro e w' ⟨rfl, rfl⟩)
    go_ret
    exact ⟨by rw [HN.out]; rfl, Ext.refl' _⟩
  have HN : Hid (varOf n = ⟨(varL n.toNat).toArray⟩) := by unfold varOf; rw [if_pos hn]; rfl
  obtain ⟨N0, rfl⟩ : ∃ m : Nat, n = (m : Int) := ⟨n.toNat, by omega⟩
  have hd : decide (0 ≤ (N0 : Int) ∧ (N0 : Int) ≤ 562949953421311) = true := by simpa using hn
  have hd1 : decide ((N0 : Int) ≤ 562949953421311) = true := by simp; omega
  have hd2 : decide (N0 ≤ 562949953421311) = true := by simp; omega
  have hN0 : N0 ≤ 562949953421311 := by omega
  have oe := Lib.hid (own_empty8 w)
  clear hn
  go_enter Try.func39, Try.ntmps39
  go_wp2_with (go_at_call 46; refine (within_any _ _ _ _).mono ?_; rintro e w' ⟨rfl, rfl⟩)
  clear hd hd1 hd2
  go_loopw [0, 3] (fun i u wr => ∃ (N m : Nat) (B : Option Addr) (d : Nat) (acc : List UInt8), 127 * m + N ≤ N0 ∧ acc ++ varL N = varL N0 ∧ i = .int .i64 N ∧ u = .slice B m d ∧ wr.ownsRow w.heap.size 5 1 (.slice B m d) m (chars acc) ∧ Ext w wr) (fun i _ _ => (intOf i).toNat)
  case atStart => exact ⟨N0, 0, _, _, [], by omega, rfl, rfl, rfl, oe.out, (Ext.refl' w).al _⟩
  case round =>
    obtain ⟨N, m, B, d, acc, hb, hv, rfl, rfl, ho, hx⟩ := hrel
    have HV := Lib.hid hv
    have HO := Lib.hid ho
    have HX := Lib.hid hx
    have zx : w.heap.size ≤ wr.heap.size := hx.size
    clear hv ho hx
    by_cases hbig : 127 < N
    rotate_left
    · have HE : Hid (acc ++ [UInt8.ofNat N] = varL N0) := by rw [← HV.out, varL_end (by omega)]; rfl
      have hB := Lib.hid (ofNat_toNat (n := N) (by omega))
      have hw : IntKind.u8.wrap (N : Int) = (N : Int) := IntWalk.u8_in _ (by omega)
      have hnb : ¬ 127 < (N : Int) := by omega
      clear hbig
      go_wp2_with (at_builtin; refine wp_push rfl (.tmp 19) (.tmp 22) _ rfl w.heap.size 5 _ _ _ Try.underU8s Try.infoU8 rfl (by omega) B m d _ rfl HO.out [.int .u8 (N : Int)] _ (by simp) rfl rfl (by simp [Value.oneCell']) (by omega) (by unfold maxLen; omega) (by omega) ?_; intro A' c' w' hown' hchg' hat'; have hcv := conv_own (l := acc ++ [UInt8.ofNat N]) (by rw [chars_append, chars_one, hB.out]; exact hown') (by omega))
      go_ret
      exact ⟨by rw [HN.out, Int.toNat_natCast, ← HE.out]; rfl, hchg'.ext HX.out (fun g hg => by have := (HO.out.lt g hg).1; omega)⟩
    have HE : Hid ((acc ++ [UInt8.ofNat (128 + N % 128)]) ++ varL (N / 128) = varL N0) := by rw [← HV.out, varL_on hbig, List.append_assoc]; rfl
    have hB := Lib.hid (ofNat_toNat (n := 128 + N % 128) (by omega))
    obtain ⟨r, hr⟩ : ∃ r, r = N % 128 := ⟨_, rfl⟩
    rw [← hr] at HE hB
    have hA : bits .and .i64 (N : Int) 127 = (r : Int) := by rw [show (127 : Int) = ((127 : Nat) : Int) from rfl, i64_and_nat _ _ (by omega) (by omega), hr]; exact congrArg _ (Nat.and_two_pow_sub_one_eq_mod N 7)
    have hr8 : r < 128 := by omega
    have hO : bits .or .i64 (r : Int) 128 = 128 + (r : Int) := by rw [show (128 : Int) = ((128 : Nat) : Int) from rfl, i64_or_nat _ _ (by omega) (by omega), Nat.or_comm]; have h := Nat.two_pow_add_eq_or_of_lt (b := r) (i := 7) hr8 1; simp at h; rw [← h]; simp
    have hT : Int.tmod (N : Int) 128 = (r : Int) := by rw [Int.tmod_eq_emod_of_nonneg (by omega)]; omega
    have hD : Int.tdiv (N : Int) 128 = (N : Int) / 128 := by rw [Int.tdiv_eq_ediv_of_nonneg (by omega)]
    have hw : IntKind.u8.wrap (128 + (r : Int)) = 128 + (r : Int) := IntWalk.u8_in _ (by omega)
    have hbig' : 127 < (N : Int) := by omega
    have HBIG := Lib.hid hbig
    clear hbig
    have HR := Lib.hid hr
    have HRL := Lib.hid hr8
    clear hr
    go_wp2_with (at_builtin; refine wp_push rfl (.tmp 10) (.tmp 15) _ rfl w.heap.size 5 _ _ _ Try.underU8s Try.infoU8 rfl (by omega) B m d _ rfl HO.out [.int .u8 (128 + (r : Int))] _ (by simp) rfl rfl (by simp [Value.oneCell']) (by omega) (by unfold maxLen; omega) (by omega) ?_; intro A' c' w' hown' hchg' hat')
    go_roundw
    case rel => exact ⟨N / 128, m + 1, A', c', acc ++ [UInt8.ofNat (128 + r)], by omega, HE.out, by first | rfl | simp, rfl, by rw [chars_append, chars_one, hB.out]; exact hown', hchg'.ext HX.out (fun g hg => by have := (HO.out.lt g hg).1; omega)⟩
    case measure => have := HBIG.out; simp [intOf]; omega

set_option maxHeartbeats 2000000 in
theorem spec_Var (n : Int) (w : World) :
    Calls Try.prog 36 #[.int .i64 n] w fun e w' => e = .returned (.string (varOf n)) ∧ Ext w w' := by
  by_cases hn : 0 ≤ n ∧ n ≤ 562949953421311
  rotate_left
  · have hd : decide (0 ≤ n ∧ n ≤ 562949953421311) = false := by simpa using hn
    have HN : Hid (varOf n = ⟨#[]⟩) := by unfold varOf; rw [if_neg hn]; rfl
    clear hn
    go_enter Try.func36, Try.ntmps36
    go_wp2_with (go_at_call 59; refine (l1In_any _ _ _ _).mono ?_; rintro e w' ⟨rfl, rfl⟩)
    go_ret
    exact ⟨by rw [HN.out]; rfl, Ext.refl' _⟩
  have HN : Hid (varOf n = ⟨(varL n.toNat).toArray⟩) := by unfold varOf; rw [if_pos hn]; rfl
  obtain ⟨N0, rfl⟩ : ∃ m : Nat, n = (m : Int) := ⟨n.toNat, by omega⟩
  have hd : decide (0 ≤ (N0 : Int) ∧ (N0 : Int) ≤ 562949953421311) = true := by simpa using hn
  have hd1 : decide ((N0 : Int) ≤ 562949953421311) = true := by simp; omega
  have hd2 : decide (N0 ≤ 562949953421311) = true := by simp; omega
  have hN0 : N0 ≤ 562949953421311 := by omega
  have oe := Lib.hid (own_empty8 w)
  clear hn
  go_enter Try.func36, Try.ntmps36
  go_wp2_with (go_at_call 59; refine (l1In_any _ _ _ _).mono ?_; rintro e w' ⟨rfl, rfl⟩)
  clear hd hd1 hd2
  go_loopw [0, 3] (fun i u wr => ∃ (N m : Nat) (B : Option Addr) (d : Nat) (acc : List UInt8), 127 * m + N ≤ N0 ∧ acc ++ varL N = varL N0 ∧ i = .int .i64 N ∧ u = .slice B m d ∧ wr.ownsRow w.heap.size 5 1 (.slice B m d) m (chars acc) ∧ Ext w wr) (fun i _ _ => (intOf i).toNat)
  case atStart => exact ⟨N0, 0, _, _, [], by omega, rfl, rfl, rfl, oe.out, (Ext.refl' w).al _⟩
  case round =>
    obtain ⟨N, m, B, d, acc, hb, hv, rfl, rfl, ho, hx⟩ := hrel
    have HV := Lib.hid hv
    have HO := Lib.hid ho
    have HX := Lib.hid hx
    have zx : w.heap.size ≤ wr.heap.size := hx.size
    clear hv ho hx
    by_cases hbig : 127 < N
    rotate_left
    · have HE : Hid (acc ++ [UInt8.ofNat N] = varL N0) := by rw [← HV.out, varL_end (by omega)]; rfl
      have hB := Lib.hid (ofNat_toNat (n := N) (by omega))
      have hw : IntKind.u8.wrap (N : Int) = (N : Int) := IntWalk.u8_in _ (by omega)
      have hnb : ¬ 128 ≤ (N : Int) := by omega
      clear hbig
      go_wp2_with (at_builtin; refine wp_push rfl (.tmp 19) (.tmp 22) _ rfl w.heap.size 5 _ _ _ Try.underU8s Try.infoU8 rfl (by omega) B m d _ rfl HO.out [.int .u8 (N : Int)] _ (by simp) rfl rfl (by simp [Value.oneCell']) (by omega) (by unfold maxLen; omega) (by omega) ?_; intro A' c' w' hown' hchg' hat'; have hcv := conv_own (l := acc ++ [UInt8.ofNat N]) (by rw [chars_append, chars_one, hB.out]; exact hown') (by omega))
      go_ret
      exact ⟨by rw [HN.out, Int.toNat_natCast, ← HE.out]; rfl, hchg'.ext HX.out (fun g hg => by have := (HO.out.lt g hg).1; omega)⟩
    have HE : Hid ((acc ++ [UInt8.ofNat (128 + N % 128)]) ++ varL (N / 128) = varL N0) := by rw [← HV.out, varL_on hbig, List.append_assoc]; rfl
    have hB := Lib.hid (ofNat_toNat (n := 128 + N % 128) (by omega))
    obtain ⟨r, hr⟩ : ∃ r, r = N % 128 := ⟨_, rfl⟩
    rw [← hr] at HE hB
    have hA : bits .and .i64 (N : Int) 127 = (r : Int) := by rw [show (127 : Int) = ((127 : Nat) : Int) from rfl, i64_and_nat _ _ (by omega) (by omega), hr]; exact congrArg _ (Nat.and_two_pow_sub_one_eq_mod N 7)
    have hr8 : r < 128 := by omega
    have hO : bits .or .i64 (r : Int) 128 = 128 + (r : Int) := by rw [show (128 : Int) = ((128 : Nat) : Int) from rfl, i64_or_nat _ _ (by omega) (by omega), Nat.or_comm]; have h := Nat.two_pow_add_eq_or_of_lt (b := r) (i := 7) hr8 1; simp at h; rw [← h]; simp
    have hT : Int.tmod (N : Int) 128 = (r : Int) := by rw [Int.tmod_eq_emod_of_nonneg (by omega)]; omega
    have hD : Int.tdiv (N : Int) 128 = (N : Int) / 128 := by rw [Int.tdiv_eq_ediv_of_nonneg (by omega)]
    have hw : IntKind.u8.wrap (128 + (r : Int)) = 128 + (r : Int) := IntWalk.u8_in _ (by omega)
    have hbig' : 128 ≤ (N : Int) := by omega
    have HBIG := Lib.hid hbig
    clear hbig
    have HR := Lib.hid hr
    have HRL := Lib.hid hr8
    clear hr
    go_wp2_with (at_builtin; refine wp_push rfl (.tmp 10) (.tmp 15) _ rfl w.heap.size 5 _ _ _ Try.underU8s Try.infoU8 rfl (by omega) B m d _ rfl HO.out [.int .u8 (128 + (r : Int))] _ (by simp) rfl rfl (by simp [Value.oneCell']) (by omega) (by unfold maxLen; omega) (by omega) ?_; intro A' c' w' hown' hchg' hat')
    go_roundw
    case rel => exact ⟨N / 128, m + 1, A', c', acc ++ [UInt8.ofNat (128 + r)], by omega, HE.out, by first | rfl | simp, rfl, by rw [chars_append, chars_one, hB.out]; exact hown', hchg'.ext HX.out (fun g hg => by have := (HO.out.lt g hg).1; omega)⟩
    case measure => have := HBIG.out; simp [intOf]; omega
end Go.Proofs.Ytbclkgjjmpipfaa
