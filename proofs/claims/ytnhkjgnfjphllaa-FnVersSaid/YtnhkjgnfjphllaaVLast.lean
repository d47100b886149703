/- Last of program and reference. No condition but the length. -/
import Derived.Test.YtnhkjgnfjphllaaVRows
namespace Go.Proofs.Ytnhkjgnfjphllaa
open Go.RowKit Go.Deep
set_option linter.unusedSimpArgs false
set_option linter.unusedVariables false

/-- The value of the last of the first k rows that is of the cell. -/
def lastI (l : List Row) (y : Int) : Nat → Option Int
  | 0 => none
  | k + 1 => match l[k]? with
    | some r => if r.cell = y then some r.val else lastI l y k
    | none => lastI l y k
theorem lastI_hit {l : List Row} {y : Int} {k : Nat} {r : Row} (h : l[k]? = some r) (e : r.cell = y) : lastI l y (k + 1) = some r.val := by simp [lastI, h, e]
theorem lastI_miss {l : List Row} {y : Int} {k : Nat} {r : Row} (h : l[k]? = some r) (e : ¬ r.cell = y) : lastI l y (k + 1) = lastI l y k := by simp [lastI, h, e]
noncomputable def lastV (l : List Row) (y : Int) : Option Int := if rowsOk l = true then lastI l y l.length else none
theorem rowsOk_len {l : List Row} (h : rowsOk l = true) : l.length ≤ 300 := (dec_true h).1


set_option maxHeartbeats 4000000 in
theorem spec_Last (A : Option Addr) (n c : Nat) (l : List Row) (y : Int) (w : World) (S : Nat → Prop) (hs : Sl w S 2 A n (l.flatMap Row.cells)) (hm : n ≤ 1048576) :
    Calls Try.prog 68 #[.slice A n c, .int .i64 y] w fun e w' => e = .returned (.tuple #[.int .i64 ((lastV l y).getD 0), .bool (lastV l y).isSome]) ∧ Ext w w' := by
  have H := Lib.hid (hs.flen Row.cells_length (by omega))
  have HS := Lib.hid hs
  cases hv : rowsOk l
  · have HZ : Hid (lastV l y = none) := by show _ = _; unfold lastV; rw [hv]; rfl
    go_enter Try.func68, Try.ntmps68
    go_wp2_with fail
    refine (spec_RowsOk _ _ _ l _ S hs hm).mono ?_
    rintro e w1 ⟨rfl, x1⟩
    rw [hv]
    go_wp2
    go_ret2
    exact ⟨by rw [HZ.out]; rfl, x1⟩
  have HZ : Hid (lastV l y = lastI l y n) := by show _ = _; unfold lastV; rw [hv, H.out]; rfl
  have h300 : n ≤ 300 := by have := rowsOk_len hv; rw [H.out] at this; exact this
  go_enter Try.func68, Try.ntmps68
  go_wp2_with fail
  refine (spec_RowsOk _ _ _ l _ S hs hm).mono ?_
  rintro e w1 ⟨rfl, x1⟩
  rw [hv]
  clear hv hs
  have X1 := Lib.hid x1
  clear x1
  go_wp2
  go_loopw [6] (fun i wr => ∃ k : Nat, k ≤ n ∧ i = .int .i64 ((k : Int) - 1) ∧ Hid (lastI l y n = lastI l y k) ∧ Hid (Ext w wr)) (fun i _ => (intOf i + 1).toNat)
  case atStart => exact ⟨n, Nat.le_refl _, by first | rfl | go_num, rfl, X1⟩
  case round =>
    obtain ⟨k, hk, rfl, hI, hX⟩ := hrel
    rcases Nat.eq_zero_or_pos k with h0 | h0
    · subst h0
      go_wp2
      go_ret2
      exact ⟨by rw [HZ.out, hI.out]; rfl, hX.out⟩
    obtain ⟨j, rfl⟩ : ∃ j, k = j + 1 := ⟨k - 1, by omega⟩
    have ej : ((j + 1 : Nat) : Int) - 1 = (j : Int) := by omega
    rw [ej]
    clear ej
    obtain ⟨b, o, s, rfl, hb, hx, hc⟩ := (HS.out.ext hX.out).flat_at Row.cells_length (by omega) (show j < n by omega)
    obtain ⟨f0, f1⟩ := s
    have c0 := hc 0 (by omega)
    have c1 := hc 1 (by omega)
    simp only [Row.cells, List.getElem?_cons_zero, List.getElem?_cons_succ, Nat.add_zero] at c0 c1
    have HX := Lib.hid hx
    clear hx hc
    by_cases t0 : f0 = y
    · have b0 : (f0 == y) = true := by simpa using t0
      have HT := Lib.hid t0
      clear t0
      go_wp2
      go_ret2
      exact ⟨by rw [HZ.out, hI.out, lastI_hit HX.out HT.out]; rfl, hX.out⟩
    have b0 : (f0 == y) = false := by simpa using t0
    have HT := Lib.hid t0
    clear t0
    go_wp2
    go_roundw
    case rel => exact ⟨j, by omega, by go_num, Lib.hid (hI.out.trans (lastI_miss HX.out HT.out)), hX⟩
    case measure => simp [intOf] <;> omega


set_option maxHeartbeats 4000000 in
theorem impl_Last (A : Option Addr) (n c : Nat) (l : List Row) (y : Int) (w : World) (S : Nat → Prop) (hs : Sl w S 2 A n (l.flatMap Row.cells)) (hm : n ≤ 1048576) :
    Calls Try.prog 83 #[.slice A n c, .int .i64 y] w fun e w' => e = .returned (.tuple #[.int .i64 ((lastV l y).getD 0), .bool (lastV l y).isSome]) ∧ Ext w w' := by
  have H := Lib.hid (hs.flen Row.cells_length (by omega))
  have HS := Lib.hid hs
  cases hv : rowsOk l
  · have HZ : Hid (lastV l y = none) := by show _ = _; unfold lastV; rw [hv]; rfl
    go_enter Try.func83, Try.ntmps83
    go_wp2_with fail
    refine (impl_RowsOk _ _ _ l _ S hs hm).mono ?_
    rintro e w1 ⟨rfl, x1⟩
    rw [hv]
    go_wp2
    go_ret2
    exact ⟨by rw [HZ.out]; rfl, x1⟩
  have HZ : Hid (lastV l y = lastI l y n) := by show _ = _; unfold lastV; rw [hv, H.out]; rfl
  have h300 : n ≤ 300 := by have := rowsOk_len hv; rw [H.out] at this; exact this
  go_enter Try.func83, Try.ntmps83
  go_wp2_with fail
  refine (impl_RowsOk _ _ _ l _ S hs hm).mono ?_
  rintro e w1 ⟨rfl, x1⟩
  rw [hv]
  clear hv hs
  have X1 := Lib.hid x1
  clear x1
  go_wp2
  go_loopw [6] (fun i wr => ∃ k : Nat, k ≤ n ∧ i = .int .i64 ((k : Int) - 1) ∧ Hid (lastI l y n = lastI l y k) ∧ Hid (Ext w wr)) (fun i _ => (intOf i + 1).toNat)
  case atStart => exact ⟨n, Nat.le_refl _, by first | rfl | go_num, rfl, X1⟩
  case round =>
    obtain ⟨k, hk, rfl, hI, hX⟩ := hrel
    rcases Nat.eq_zero_or_pos k with h0 | h0
    · subst h0
      go_wp2
      go_ret2
      exact ⟨by rw [HZ.out, hI.out]; rfl, hX.out⟩
    obtain ⟨j, rfl⟩ : ∃ j, k = j + 1 := ⟨k - 1, by omega⟩
    have ej : ((j + 1 : Nat) : Int) - 1 = (j : Int) := by omega
    rw [ej]
    clear ej
    obtain ⟨b, o, s, rfl, hb, hx, hc⟩ := (HS.out.ext hX.out).flat_at Row.cells_length (by omega) (show j < n by omega)
    obtain ⟨f0, f1⟩ := s
    have c0 := hc 0 (by omega)
    have c1 := hc 1 (by omega)
    simp only [Row.cells, List.getElem?_cons_zero, List.getElem?_cons_succ, Nat.add_zero] at c0 c1
    have HX := Lib.hid hx
    clear hx hc
    by_cases t0 : f0 = y
    · have b0 : (f0 == y) = true := by simpa using t0
      have HT := Lib.hid t0
      clear t0
      go_wp2
      go_ret2
      exact ⟨by rw [HZ.out, hI.out, lastI_hit HX.out HT.out]; rfl, hX.out⟩
    have b0 : (f0 == y) = false := by simpa using t0
    have HT := Lib.hid t0
    clear t0
    go_wp2
    go_roundw
    case rel => exact ⟨j, by omega, by go_num, Lib.hid (hI.out.trans (lastI_miss HX.out HT.out)), hX⟩
    case measure => simp [intOf] <;> omega

end Go.Proofs.Ytnhkjgnfjphllaa
