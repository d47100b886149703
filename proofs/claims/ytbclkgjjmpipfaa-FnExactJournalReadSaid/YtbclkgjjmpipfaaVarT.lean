/- Var of program and reference. No condition. -/
import Derived.Test.YtbclkgjjmpipfaaStr
import Derived.Test.YtbclkgjjmpipfaaIn
namespace Go.Proofs.Ytbclkgjjmpipfaa
open Go.RowKit

/-- The cells of bytes. -/
def chars (l : List UInt8) : List Value := l.map fun b => .int .u8 (b.toNat : Int)
theorem chars_length (l : List UInt8) : (chars l).length = l.length := by simp [chars]
theorem chars_append (a b : List UInt8) : chars (a ++ b) = chars a ++ chars b := by simp [chars]
theorem chars_one (b : UInt8) : chars [b] = [.int .u8 (b.toNat : Int)] := rfl
/-- The bytes of a number in sevens, the last without the mark. -/
def varL (n : Nat) : List UInt8 := if n ≤ 127 then [UInt8.ofNat n] else UInt8.ofNat (128 + n % 128) :: varL (n / 128)
termination_by n
decreasing_by omega
theorem varL_end {n : Nat} (h : n ≤ 127) : varL n = [UInt8.ofNat n] := by rw [varL, if_pos h]
theorem varL_on {n : Nat} (h : 127 < n) : varL n = UInt8.ofNat (128 + n % 128) :: varL (n / 128) := by rw [varL, if_neg (by omega)]
def varOf (n : Int) : ByteArray := if 0 ≤ n ∧ n ≤ 562949953421311 then ⟨(varL n.toNat).toArray⟩ else ⟨#[]⟩
theorem own_empty8 (w : World) : (w.alloc (.cells #[] 5)).ownsRow w.heap.size 5 1 (.slice (some ⟨w.heap.size, 0, none⟩) 0 0) 0 (chars []) :=
  World.ownsRow_lit w #[] 0 (Nat.le_refl _) (Nat.zero_le _) (by simp)
theorem Try.infoU8 : (Try.prog.info? 5).map (fun i => (i.zero, i.size, i.bytes)) = some (some (.int .u8 0), 1, 1) := by kernel_rfl
theorem Try.underU8s : Try.prog.underlying 76 = some (.slice 5) := by kernel_rfl
theorem Try.underU8 : Try.prog.underlying 5 = some (.int .u8) := by kernel_rfl
/-- string(b) of a row of the call's own. -/
theorem conv_own {w : World} {base n c : Nat} {A : Option Addr} {l : List UInt8} (h : w.ownsRow base 5 1 (.slice A n c) n (chars l)) (hn : 0 < n) :
    (convert 76 9 (.slice A n c)).run Try.prog w = .ok (.string ⟨l.toArray⟩) w := by
  have hl : l.length = n := by have := h.1; rw [chars_length] at this; omega
  obtain ⟨g, v, rfl, _⟩ := own_at h hn
  subst hl
  refine run_convert_bytes_back w 76 9 5 ⟨g, 0, none⟩ c l Try.underU8s Try.underU8 (by kernel_rfl) fun j hj => ?_
  have hadd : (⟨g, 0, none⟩ : Addr).add j = ⟨g, j, none⟩ := by unfold Addr.add; split <;> simp_all
  rw [hadd, h.cellAt j (by omega)]
  simp [chars, hj]
theorem ofNat_toNat {n : Nat} (h : n < 256) : (UInt8.ofNat n).toNat = n := by simp ; omega
theorem varL_len {n m : Nat} (h : n < 128 ^ (m + 1)) : (varL n).length ≤ m + 1 := by
  induction m generalizing n with
  | zero => rw [varL_end (by omega)]; simp
  | succ m ih =>
    by_cases hn : n ≤ 127
    · rw [varL_end hn]; simp
    · rw [varL_on (by omega), List.length_cons]
      have := ih (n := n / 128) (by rw [Nat.div_lt_iff_lt_mul (by omega)]; rw [Nat.pow_succ] at h; exact h)
      omega
theorem varOf_size (n : Int) : (varOf n).size ≤ 7 := by
  unfold varOf
  split
  · have := varL_len (n := n.toNat) (m := 6) (by omega)
    simpa [ByteArray.size] using this
  · simp [ByteArray.size]
end Go.Proofs.Ytbclkgjjmpipfaa
