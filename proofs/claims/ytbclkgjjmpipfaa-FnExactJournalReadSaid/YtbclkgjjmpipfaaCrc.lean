/- Crc of program and reference. No condition but the length. -/
import Derived.Test.YtbclkgjjmpipfaaStr
namespace Go.Proofs.Ytbclkgjjmpipfaa
open Go.RowKit

def crcBit (c : Nat) : Nat := if c % 2 = 1 then (c / 2) ^^^ 2197175160 else c / 2
def crcBits : Nat → Nat → Nat
  | 0, c => c
  | k + 1, c => crcBit (crcBits k c)
def crcByte (c : Nat) (b : UInt8) : Nat := crcBits 8 (c ^^^ b.toNat)
def crcOf (l : List UInt8) : Nat := l.foldl crcByte 4294967295
theorem crcBit_lt {c : Nat} (h : c < 4294967296) : crcBit c < 4294967296 := by
  unfold crcBit
  split
  · exact Nat.xor_lt_two_pow (n := 32) (by omega) (by omega)
  · omega
theorem crcBits_lt (k : Nat) {c : Nat} (h : c < 4294967296) : crcBits k c < 4294967296 := by
  induction k with
  | zero => exact h
  | succ k ih => exact crcBit_lt ih
theorem byte_lt (b : UInt8) : b.toNat < 256 := b.toNat_lt
theorem xorByte_lt {c : Nat} (b : UInt8) (h : c < 4294967296) : c ^^^ b.toNat < 4294967296 :=
  Nat.xor_lt_two_pow (n := 32) (by omega) (by have := byte_lt b; omega)
theorem crcByte_lt {c : Nat} (b : UInt8) (h : c < 4294967296) : crcByte c b < 4294967296 := crcBits_lt 8 (xorByte_lt b h)
theorem crc_lt (l : List UInt8) : crcOf l < 4294967296 := by
  unfold crcOf
  suffices h : ∀ c, c < 4294967296 → l.foldl crcByte c < 4294967296 from h _ (by omega)
  induction l with
  | nil => exact fun c h => h
  | cons b l ih => exact fun c h => ih _ (crcByte_lt b h)
theorem crc_snoc (l : List UInt8) (b : UInt8) : crcOf (l ++ [b]) = crcByte (crcOf l) b := by simp [crcOf, List.foldl_append]
theorem take_snoc (s : ByteArray) (k : Nat) (h : k < s.size) : s.data.toList.take (k + 1) = s.data.toList.take k ++ [s[k]] := by
  rw [List.take_succ_eq_append_getElem (by simpa using h)]; rfl

set_option maxRecDepth 20000 in
set_option maxHeartbeats 1000000 in
theorem impl_Crc (s : ByteArray) (hs : s.size ≤ 1099511627776) (w : World) :
    Calls Try.prog 41 #[.string s] w fun e w' => e = .returned (.int .i64 (4294967295 - (crcOf s.data.toList : Nat) : Int)) ∧ w = w' := by
  go_enter Try.func41, Try.ntmps41
  go_wp2
  go_loop [3, 4] (fun c i => ∃ k : Nat, k ≤ s.size ∧ i = .int .i64 k ∧ c = .int .i64 (crcOf (s.data.toList.take k))) (fun _ i => s.size - (intOf i).toNat)
  case atStart => exact ⟨0, Nat.zero_le _, rfl, rfl⟩
  case round =>
    obtain ⟨k, hk, rfl, rfl⟩ := hrel
    by_cases hlt : k < s.size
    rotate_left
    · have e : Hid (crcOf (s.data.toList.take k) = crcOf s.data.toList) := by rw [List.take_of_length_le (by simp; omega)]; rfl
      have hb := crc_lt (s.data.toList.take k)
      have hb' : ((crcOf (s.data.toList.take k) : Nat) : Int) < 4294967296 := by omega
      go_wp2
      go_ret
      exact ⟨by rw [← e.out]; rfl, rfl⟩
    have HS : Hid (crcOf (s.data.toList.take (k + 1)) = crcByte (crcOf (s.data.toList.take k)) s[k]) := by rw [take_snoc s k hlt, crc_snoc]; rfl
    have hc := crc_lt (s.data.toList.take k)
    have hb := byte_lt s[k]
    have hx : bits .xor .i64 (crcOf (s.data.toList.take k) : Int) (s[k].toNat : Int) = ((crcOf (s.data.toList.take k) ^^^ s[k].toNat : Nat) : Int) := i64_xor_nat _ _ (by omega) (by omega)
    have hX := xorByte_lt s[k] hc
    have HB : Hid (crcByte (crcOf (s.data.toList.take k)) s[k] = crcBits 8 (crcOf (s.data.toList.take k) ^^^ s[k].toNat)) := rfl
    generalize crcOf (s.data.toList.take k) ^^^ s[k].toNat = X at hx hX HB
    go_wp2
    go_loop [3, 18] (fun c j => ∃ m : Nat, m ≤ 8 ∧ j = .int .i64 m ∧ c = .int .i64 (crcBits m X)) (fun _ j => 8 - (intOf j).toNat)
    case atStart => exact ⟨0, Nat.zero_le _, rfl, rfl⟩
    case round =>
      obtain ⟨m, hm, rfl, rfl⟩ := hrel
      by_cases hm8 : m < 8
      rotate_left
      · have e8 : m = 8 := by omega
        subst e8
        go_wp2
        go_round
        case rel => exact ⟨k + 1, by omega, by go_num, by rw [HS.out, HB.out]⟩
        case measure => simp [intOf]; omega
      have hC := crcBits_lt m hX
      have HN : Hid (crcBits (m + 1) X = crcBit (crcBits m X)) := rfl
      generalize crcBits m X = C at hC HN
      have hC1 : (C : Int) < 4294967296 := by omega
      by_cases odd : C % 2 = 1
      · have HO : Hid (crcBit C = (C / 2) ^^^ 2197175160) := by unfold crcBit; rw [if_pos odd]; rfl
        have hA : bits .and .i64 (C : Int) 1 = 1 := by rw [show (1 : Int) = ((1 : Nat) : Int) from rfl, i64_and_nat _ _ (by omega) (by omega), Nat.and_one_is_mod, odd]
        have hT : Int.tmod (C : Int) 2 = 1 := by rw [Int.tmod_eq_emod_of_nonneg (by omega)]; omega
        have hM : (C : Int) % 2 = 1 := by omega
        have hD : Int.tdiv (C : Int) 2 = (C : Int) / 2 := by rw [Int.tdiv_eq_ediv_of_nonneg (by omega)]
        have hX2 : bits .xor .i64 ((C : Int) / 2) 2197175160 = (((C / 2) ^^^ 2197175160 : Nat) : Int) := by rw [show (C : Int) / 2 = ((C / 2 : Nat) : Int) by omega, show (2197175160 : Int) = ((2197175160 : Nat) : Int) from rfl]; exact i64_xor_nat _ _ (by omega) (by omega)
        clear odd hC1
        go_wp2
        go_round
        case rel => exact ⟨m + 1, by omega, by go_num, by rw [HN.out, HO.out]⟩
        case measure => simp [intOf]; omega
      · have HO : Hid (crcBit C = C / 2) := by unfold crcBit; rw [if_neg odd]; rfl
        have hA : bits .and .i64 (C : Int) 1 = 0 := by rw [show (1 : Int) = ((1 : Nat) : Int) from rfl, i64_and_nat _ _ (by omega) (by omega), Nat.and_one_is_mod, show C % 2 = 0 by omega]; rfl
        have hT : Int.tmod (C : Int) 2 = 0 := by rw [Int.tmod_eq_emod_of_nonneg (by omega)]; omega
        have hM : (C : Int) % 2 = 0 := by omega
        have hD : Int.tdiv (C : Int) 2 = (C : Int) / 2 := by rw [Int.tdiv_eq_ediv_of_nonneg (by omega)]
        clear odd hC1
        go_wp2
        go_round
        case rel => exact ⟨m + 1, by omega, by go_num, by rw [HN.out, HO.out]; first | rfl | simp⟩
        case measure => simp [intOf]; omega

set_option maxHeartbeats 1000000 in
theorem spec_Crc (s : ByteArray) (hs : s.size ≤ 1099511627776) (w : World) :
    Calls Try.prog 38 #[.string s] w fun e w' => e = .returned (.int .i64 (4294967295 - (crcOf s.data.toList : Nat) : Int)) ∧ w = w' := by
  go_enter Try.func38, Try.ntmps38
  go_wp2
  go_loop [3, 4] (fun c i => ∃ k : Nat, k ≤ s.size ∧ i = .int .i64 k ∧ c = .int .i64 (crcOf (s.data.toList.take k))) (fun _ i => s.size - (intOf i).toNat)
  case atStart => exact ⟨0, Nat.zero_le _, rfl, rfl⟩
  case round =>
    obtain ⟨k, hk, rfl, rfl⟩ := hrel
    by_cases hlt : k < s.size
    rotate_left
    · have e : Hid (crcOf (s.data.toList.take k) = crcOf s.data.toList) := by rw [List.take_of_length_le (by simp; omega)]; rfl
      have hb := crc_lt (s.data.toList.take k)
      have hb' : ((crcOf (s.data.toList.take k) : Nat) : Int) < 4294967296 := by omega
      go_wp2
      go_ret
      exact ⟨by rw [← e.out]; rfl, rfl⟩
    have HS : Hid (crcOf (s.data.toList.take (k + 1)) = crcByte (crcOf (s.data.toList.take k)) s[k]) := by rw [take_snoc s k hlt, crc_snoc]; rfl
    have hc := crc_lt (s.data.toList.take k)
    have hb := byte_lt s[k]
    have hx : bits .xor .i64 (crcOf (s.data.toList.take k) : Int) (s[k].toNat : Int) = ((crcOf (s.data.toList.take k) ^^^ s[k].toNat : Nat) : Int) := i64_xor_nat _ _ (by omega) (by omega)
    have hX := xorByte_lt s[k] hc
    have HB : Hid (crcByte (crcOf (s.data.toList.take k)) s[k] = crcBits 8 (crcOf (s.data.toList.take k) ^^^ s[k].toNat)) := rfl
    generalize crcOf (s.data.toList.take k) ^^^ s[k].toNat = X at hx hX HB
    go_wp2
    go_loop [3, 5] (fun c j => ∃ m : Nat, m ≤ 8 ∧ j = .int .i64 m ∧ c = .int .i64 (crcBits m X)) (fun _ j => 8 - (intOf j).toNat)
    case atStart => exact ⟨0, Nat.zero_le _, rfl, rfl⟩
    case round =>
      obtain ⟨m, hm, rfl, rfl⟩ := hrel
      by_cases hm8 : m < 8
      rotate_left
      · have e8 : m = 8 := by omega
        subst e8
        go_wp2
        go_round
        case rel => exact ⟨k + 1, by omega, by go_num, by rw [HS.out, HB.out]⟩
        case measure => simp [intOf]; omega
      have hC := crcBits_lt m hX
      have HN : Hid (crcBits (m + 1) X = crcBit (crcBits m X)) := rfl
      generalize crcBits m X = C at hC HN
      have hC1 : (C : Int) < 4294967296 := by omega
      by_cases odd : C % 2 = 1
      · have HO : Hid (crcBit C = (C / 2) ^^^ 2197175160) := by unfold crcBit; rw [if_pos odd]; rfl
        have hA : bits .and .i64 (C : Int) 1 = 1 := by rw [show (1 : Int) = ((1 : Nat) : Int) from rfl, i64_and_nat _ _ (by omega) (by omega), Nat.and_one_is_mod, odd]
        have hT : Int.tmod (C : Int) 2 = 1 := by rw [Int.tmod_eq_emod_of_nonneg (by omega)]; omega
        have hM : (C : Int) % 2 = 1 := by omega
        have hD : Int.tdiv (C : Int) 2 = (C : Int) / 2 := by rw [Int.tdiv_eq_ediv_of_nonneg (by omega)]
        have hX2 : bits .xor .i64 ((C : Int) / 2) 2197175160 = (((C / 2) ^^^ 2197175160 : Nat) : Int) := by rw [show (C : Int) / 2 = ((C / 2 : Nat) : Int) by omega, show (2197175160 : Int) = ((2197175160 : Nat) : Int) from rfl]; exact i64_xor_nat _ _ (by omega) (by omega)
        clear odd hC1
        go_wp2
        go_round
        case rel => exact ⟨m + 1, by omega, by go_num, by rw [HN.out, HO.out]⟩
        case measure => simp [intOf]; omega
      · have HO : Hid (crcBit C = C / 2) := by unfold crcBit; rw [if_neg odd]; rfl
        have hA : bits .and .i64 (C : Int) 1 = 0 := by rw [show (1 : Int) = ((1 : Nat) : Int) from rfl, i64_and_nat _ _ (by omega) (by omega), Nat.and_one_is_mod, show C % 2 = 0 by omega]; rfl
        have hT : Int.tmod (C : Int) 2 = 0 := by rw [Int.tmod_eq_emod_of_nonneg (by omega)]; omega
        have hM : (C : Int) % 2 = 0 := by omega
        have hD : Int.tdiv (C : Int) 2 = (C : Int) / 2 := by rw [Int.tdiv_eq_ediv_of_nonneg (by omega)]
        clear odd hC1
        go_wp2
        go_round
        case rel => exact ⟨m + 1, by omega, by go_num, by rw [HN.out, HO.out]; first | rfl | simp⟩
        case measure => simp [intOf]; omega
end Go.Proofs.Ytbclkgjjmpipfaa
