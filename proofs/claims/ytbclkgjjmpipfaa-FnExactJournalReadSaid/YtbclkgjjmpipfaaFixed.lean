/- Fixed of program and reference, at width 4. -/
import Derived.Test.YtbclkgjjmpipfaaVarT
namespace Go.Proofs.Ytbclkgjjmpipfaa
open Go.RowKit

def fixN (c : Nat) : Nat → Nat
  | 0 => c
  | m + 1 => fixN c m / 256
theorem fixN_lt {c : Nat} (m : Nat) (h : c < 4294967296) : fixN c m < 4294967296 := by
  induction m with
  | zero => exact h
  | succ m ih => show fixN c m / 256 < _; omega
theorem fixN_4 {c : Nat} (h : c < 4294967296) : fixN c 4 = 0 := by
  show c / 256 / 256 / 256 / 256 = 0
  omega
/-- The last m bytes, the greatest first. -/
def fixS (c : Nat) : Nat → List UInt8
  | 0 => []
  | m + 1 => UInt8.ofNat (fixN c m % 256) :: fixS c m
theorem fixS_len (c m : Nat) : (fixS c m).length = m := by
  induction m with
  | zero => rfl
  | succ m ih => show (fixS c m).length + 1 = _; omega
def fixL (c : Nat) : List UInt8 := fixS c 4
def fixed4 (c : Nat) : ByteArray := ⟨(fixL c).toArray⟩
def fixCells (c m : Nat) : List Value := List.replicate (4 - m) (.int .u8 0) ++ chars (fixS c m)
theorem fixCells_len (c m : Nat) : (fixCells c m).length = 4 - m + m := by simp [fixCells, chars_length, fixS_len]
theorem fixL_chars (c : Nat) : chars (fixL c) = fixCells c 4 := rfl
theorem fixCells_set (c m : Nat) (h : m < 4) : fixCells c (m + 1) = (fixCells c m).set (3 - m) (.int .u8 ((fixN c m % 256 : Nat) : Int)) := by
  have e : chars (fixS c (m + 1)) = .int .u8 ((fixN c m % 256 : Nat) : Int) :: chars (fixS c m) := by
    show .int .u8 ((UInt8.ofNat (fixN c m % 256)).toNat : Int) :: chars (fixS c m) = _
    rw [ofNat_toNat (by omega)]
  unfold fixCells
  rw [e]
  obtain rfl | rfl | rfl | rfl : m = 0 ∨ m = 1 ∨ m = 2 ∨ m = 3 := by omega
  all_goals rfl
/-- string([]byte{b}) -/
theorem conv_lit (w : World) (b : UInt8) : (convert 76 9 (.slice (some ⟨w.heap.size, 0, none⟩) 1 1)).run Try.prog (w.alloc (.cells #[.int .u8 (b.toNat : Int)] 5)) = .ok (.string ⟨#[b]⟩) (w.alloc (.cells #[.int .u8 (b.toNat : Int)] 5)) :=
  conv_own (l := [b]) (World.ownsRow_lit w #[.int .u8 (b.toNat : Int)] 1 (Nat.le_refl _) (by unfold maxLen; omega) (by simp)) (by omega)

set_option maxHeartbeats 2000000 in
theorem impl_Fixed4 (c : Nat) (hc : c < 4294967296) (w : World) :
    Calls Try.prog 40 #[.int .i64 c, .int .i64 4] w fun e w' => e = .returned (.string (fixed4 c)) ∧ Ext w w' := by
  obtain ⟨w1, cs0, hmk, hown, hcs, hx1, hlt⟩ := made_row (P := Try.prog) w 76 5 _ _ _ Try.underU8s Try.infoU8 4 (by omega) (by unfold maxLen; omega)
  have hcs' : cs0 = fixCells c 0 := by rw [hcs]; simp [madeCells, fixCells, fixS, chars, Value.cells, List.replicate]; try rfl
  subst hcs'
  clear hcs
  replace hmk : (Instr.makeSlice 76 (.int .i64 4) (.int .i64 4)).run Try.prog w = .ok (.slice (some ⟨w.heap.size, 0, none⟩) 4 4) w1 := hmk
  have HO := Lib.hid hown
  have HX := Lib.hid hx1
  have HC := Lib.hid hc
  clear hown hx1
  go_enter Try.func40, Try.ntmps40
  go_wp2_with (go_at_call 46; refine (within_any _ _ _ _).mono ?_; rintro e w' ⟨rfl, rfl⟩)
  clear hc
  go_loopw [0, 6] (fun n i wr => ∃ (m : Nat), m ≤ 4 ∧ i = .int .i64 (3 - (m : Int)) ∧ n = .int .i64 (fixN c m) ∧ wr.ownsRow w.heap.size 5 1 (.slice (some ⟨w.heap.size, 0, none⟩) 4 4) 4 (fixCells c m) ∧ Ext w wr) (fun _ i _ => (intOf i + 1).toNat)
  case atStart => exact ⟨0, by omega, rfl, rfl, HO.out, HX.out⟩
  case round =>
    obtain ⟨m, hm, rfl, rfl, ho, hx⟩ := hrel
    have HOO := Lib.hid ho
    have HXX := Lib.hid hx
    clear ho hx
    have hN := fixN_lt m HC.out
    have HNX : Hid (fixN c (m + 1) = fixN c m / 256) := rfl
    have hA : bits .and .i64 (fixN c m : Int) 255 = ((fixN c m % 256 : Nat) : Int) := by rw [show (255 : Int) = ((255 : Nat) : Int) from rfl, i64_and_nat _ _ (by omega) (by omega)]; exact congrArg _ (Nat.and_two_pow_sub_one_eq_mod (fixN c m) 8)
    have hR : fixN c m % 256 < 256 := by omega
    have HRR : Hid (fixN c m % 256 = fixN c m % 256) := rfl
    by_cases h4 : m < 4
    rotate_left
    · obtain rfl : m = 4 := by omega
      clear hA hR hN HNX
      have hcv := conv_own (l := fixL c) (by rw [fixL_chars]; exact HOO.out) (by omega)
      go_wp2
      go_ret
      exact ⟨rfl, HXX.out⟩
    obtain ⟨v, hv⟩ : ∃ v, wr.cell? ⟨w.heap.size, 3 - m, none⟩ = some v := by
      rw [HOO.out.cellAt (3 - m) (by omega)]
      exact ⟨_, List.getElem?_eq_getElem (by have := fixCells_len c m; omega)⟩
    have hf := HOO.out.frozenAt (g := w.heap.size) (3 - m)
    generalize hNN : fixN c m = N at hA hR hN HNX HRR
    generalize hrr : N % 256 = r at hA hR HRR
    have HST : Hid (fixCells c (m + 1) = (fixCells c m).set (3 - m) (.int .u8 (r : Int))) := by rw [fixCells_set c m h4, hNN, hrr]; rfl
    have hw : IntKind.u8.wrap (r : Int) = (r : Int) := IntWalk.u8_in _ (by omega)
    have HLT := Lib.hid (show N < 4294967296 from hN)
    clear hNN hrr hN HRR
    obtain ⟨p, hp⟩ : ∃ p, p = 3 - m := ⟨_, rfl⟩
    have hpm : m = 3 - p ∧ p ≤ 3 := by omega
    rw [← hp] at hv hf HST
    have hi : (3 : Int) - (m : Int) = (p : Int) := by omega
    have hp4 : (p : Int) < 4 := by omega
    have HPM := Lib.hid hpm
    rw [hi]
    clear hpm hp hi h4 hm
    go_wp2
    go_roundw
    case rel => 
      have hst := HOO.out.stored p (.int .u8 (r : Int))
      exact ⟨m + 1, by have := HPM.out; omega, by have := HPM.out; simp; try omega, by rw [HNX.out]; first | rfl | simp, by rw [HST.out]; exact hst.1, HXX.out.sc (p := ⟨w.heap.size, p, none⟩) (Nat.le_refl _) _⟩
    case measure => have := HPM.out; simp [intOf]; try omega

set_option maxHeartbeats 2000000 in
theorem spec_Fixed4 (c : Nat) (hc : c < 4294967296) (w : World) :
    Calls Try.prog 37 #[.int .i64 c, .int .i64 4] w fun e w' => e = .returned (.string (fixed4 c)) ∧ Ext w w' := by
  have HC := Lib.hid hc
  clear hc
  go_enter Try.func37, Try.ntmps37
  go_wp2_with (go_at_call 59; refine (l1In_any _ _ _ _).mono ?_; rintro e w' ⟨rfl, rfl⟩)
  go_loopw [0, 5, 6] (fun n s i wr => ∃ (m : Nat), m ≤ 4 ∧ i = .int .i64 (m : Int) ∧ n = .int .i64 (fixN c m) ∧ s = .string ⟨(fixS c m).toArray⟩ ∧ Ext w wr) (fun _ _ i _ => 4 - (intOf i).toNat)
  case atStart => exact ⟨0, by omega, rfl, rfl, rfl, Ext.refl' _⟩
  case round =>
    obtain ⟨m, hm, rfl, rfl, rfl, hx⟩ := hrel
    have HXX := Lib.hid hx
    clear hx
    have HN := Lib.hid (fixN_lt m HC.out)
    have HNX : Hid (fixN c (m + 1) = fixN c m / 256) := rfl
    have HSX : Hid (fixS c (m + 1) = UInt8.ofNat (fixN c m % 256) :: fixS c m) := rfl
    by_cases h4 : m < 4
    rotate_left
    · obtain rfl : m = 4 := by omega
      have hz : fixN c 4 = 0 := fixN_4 HC.out
      have HL : Hid (fixS c 4 = fixL c) := rfl
      rw [hz]
      clear hz
      go_wp2
      go_ret
      exact ⟨by rw [fixed4, ← HL.out]; rfl, HXX.out⟩
    have hS : (fixS c m).length ≤ 4 := by rw [fixS_len]; omega
    generalize fixN c m = N at HN HNX HSX
    generalize fixS c m = s at HSX hS
    have hB := Lib.hid (ofNat_toNat (n := N % 256) (by omega))
    obtain ⟨r, hr⟩ : ∃ r, r = N % 256 := ⟨_, rfl⟩
    rw [← hr] at HSX hB
    have hT : Int.tmod (N : Int) 256 = (r : Int) := by rw [Int.tmod_eq_emod_of_nonneg (by omega)]; omega
    have hD : Int.tdiv (N : Int) 256 = (N : Int) / 256 := by rw [Int.tdiv_eq_ediv_of_nonneg (by omega)]
    have hw : IntKind.u8.wrap (r : Int) = (r : Int) := IntWalk.u8_in _ (by omega)
    have hNi : N < 4294967296 := HN.out
    have hcv := conv_lit wr (UInt8.ofNat r)
    rw [hB.out] at hcv
    have hadd : ∀ w : World, (Op.stringOp .add ⟨#[UInt8.ofNat r]⟩ ⟨s.toArray⟩).run Try.prog w = .ok (.string ⟨(UInt8.ofNat r :: s).toArray⟩) w := fun w => by
      rw [show (⟨#[UInt8.ofNat r]⟩ : ByteArray) = ⟨[UInt8.ofNat r].toArray⟩ from rfl]
      exact run_string_add_lists w [UInt8.ofNat r] s (by simp) (by omega)
    clear hr hS
    go_wp2
    go_roundw
    case rel => exact ⟨m + 1, by omega, by go_num, by rw [HNX.out]; first | rfl | simp, by rw [HSX.out], HXX.out.al _⟩
    case measure => simp [intOf]; omega
end Go.Proofs.Ytbclkgjjmpipfaa
