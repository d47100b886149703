/- slices.Index and slices.Contains on []int. No condition but lengths. -/
import Derived.Test.YtcnkmbofpppfaaaInts
namespace Go.Proofs.Ytcnkmbofpppfaaa
open Go.RowKit Go.Deep

theorem notMem_upto {zs : List Int} {x : Int} (h : ∀ j, j < zs.length → zs[j]? ≠ some x) : x ∉ zs := by
  intro hx
  obtain ⟨j, hj, e⟩ := List.getElem_of_mem hx
  exact h j hj (by rw [List.getElem?_eq_getElem hj, e])

set_option maxHeartbeats 1000000 in
theorem Index_any (A : Option Addr) (n c : Nat) (zs : List Int) (x : Int) (w : World) (S : Nat → Prop) (hs : Sl w S 1 A n (ints zs)) (hm : n ≤ 9223372036854775807) :
    Calls Try.prog 60 #[.slice A n c, .int .i64 x] w fun e w' => ∃ i : Int, e = .returned (.int .i64 i) ∧ ((i = -1 ∧ x ∉ zs) ∨ (0 ≤ i ∧ x ∈ zs)) ∧ w = w' := by
  have H := Lib.hid hs.len
  go_enter Try.func60, Try.ntmps60
  go_wp2
  go_loop [8] (fun i => ∃ k : Nat, k ≤ n ∧ i = .int .i64 k ∧ ∀ j, j < k → zs[j]? ≠ some x) (fun i => n - (intOf i).toNat)
  case atStart => exact ⟨0, Nat.zero_le _, rfl, fun j hj => absurd hj (Nat.not_lt_zero _)⟩
  case round =>
    obtain ⟨k, hk, rfl, hno⟩ := hrel
    have HN := Lib.hid hno
    clear hno
    by_cases hlt : k < n
    · obtain ⟨b, o, y, rfl, hb, hy, hc⟩ := hs.int_at hlt
      have HY := Lib.hid hy
      clear hy
      by_cases he : x = y
      · have hbe : (x == y) = true := by simp [he]
        have HE := Lib.hid he
        clear he
        go_wp2
        go_ret
        exact ⟨k, rfl, .inr ⟨by omega, List.mem_of_getElem? (by rw [HY.out, HE.out])⟩, rfl⟩
      · have hbe : (x == y) = false := by simp [he]
        have HE := Lib.hid he
        clear he
        go_wp2
        go_round
        case rel =>
          refine ⟨k + 1, by omega, by go_num, fun j hj => ?_⟩
          by_cases e : j = k
          · subst e; rw [HY.out]; intro q; injection q with q; exact HE.out q.symm
          · exact HN.out j (by omega)
        case measure => simp [intOf]; omega
    · go_wp2
      go_ret
      exact ⟨-1, rfl, .inl ⟨rfl, notMem_upto fun j hj => HN.out j (by rw [H.out] at hj; omega)⟩, rfl⟩

theorem Contains_any (A : Option Addr) (n c : Nat) (zs : List Int) (x : Int) (w : World) (S : Nat → Prop) (hs : Sl w S 1 A n (ints zs)) (hm : n ≤ 9223372036854775807) :
    Calls Try.prog 52 #[.slice A n c, .int .i64 x] w fun e w' => e = .returned (.bool (dec (x ∈ zs))) ∧ w = w' := by
  go_enter Try.func52, Try.ntmps52
  go_wp2_with fail
  refine (Index_any _ _ _ _ _ _ _ hs hm).mono ?_
  rintro e w1 ⟨i, rfl, hi, rfl⟩
  rcases hi with ⟨rfl, hx⟩ | ⟨hi, hx⟩
  · have HX := Lib.hid hx
    clear hx
    go_wp2
    go_ret
    exact ⟨by rw [dec_no HX.out]; rfl, rfl⟩
  · have HX := Lib.hid hx
    clear hx
    go_wp2
    go_ret
    exact ⟨by rw [dec_yes HX.out]; rfl, rfl⟩
end Go.Proofs.Ytcnkmbofpppfaaa
