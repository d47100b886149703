/- Net of program and reference. No condition but the length. -/
import Derived.Test.YtnhkjgnfjphllaaVLast
import Derived.Test.YtnhkjgnfjphllaaMineV
import Derived.Test.YtnhkjgnfjphllaaFlat
namespace Go.Proofs.Ytnhkjgnfjphllaa
open Go.RowKit Go.Deep
set_option linter.unusedSimpArgs false
set_option linter.unusedVariables false

noncomputable def netTo (l : List Row) : Nat → List Row
  | 0 => []
  | k + 1 => netTo l k ++ (match lastV l (k : Int) with | some v => [⟨(k : Int), v⟩] | none => [])
noncomputable def netR (l : List Row) : List Row := netTo l 8
theorem netTo_some {l : List Row} {k : Nat} {v : Int} (h : lastV l (k : Int) = some v) : netTo l (k + 1) = netTo l k ++ [⟨(k : Int), v⟩] := by simp [netTo, h]
theorem netTo_none {l : List Row} {k : Nat} (h : lastV l (k : Int) = none) : netTo l (k + 1) = netTo l k := by simp [netTo, h]
theorem netTo_len (l : List Row) : ∀ k, (netTo l k).length ≤ k
  | 0 => Nat.le_refl _
  | k + 1 => by
    have := netTo_len l k
    unfold netTo
    split <;> simp <;> omega
theorem net_bad {l : List Row} (h : rowsOk l = false) : ∀ k, netTo l k = []
  | 0 => rfl
  | k + 1 => by rw [netTo_none (by unfold lastV; rw [h]; rfl), net_bad h k]
theorem own_emptyR (w : World) : (w.alloc (.cells #[] 84)).ownsRow w.heap.size 84 2 (.slice (some ⟨w.heap.size, 0, none⟩) 0 0) 0 (([] : List Row).flatMap Row.cells) :=
  World.ownsRow_lit w #[] 0 (Nat.le_refl _) (Nat.zero_le _) (by simp)
theorem row_push (l : List Row) (x0 x1 : Int) : l.flatMap Row.cells ++ [.int .i64 x0, .int .i64 x1] = (l ++ [(⟨x0, x1⟩ : Row)]).flatMap Row.cells := by simp [Row.cells]


set_option maxHeartbeats 4000000 in
theorem spec_Net (A : Option Addr) (n c : Nat) (l : List Row) (w : World) (S : Nat → Prop) (hs : Sl w S 2 A n (l.flatMap Row.cells)) (hm : n ≤ 1048576) :
    Calls Try.prog 67 #[.slice A n c] w fun e w' => ∃ B m d, e = .returned (.slice B m d) ∧ Mine w w' [.row 84 2 B m d ((netR l).flatMap Row.cells)] := by
  have HS := Lib.hid hs
  have HM0 : Hid (Mine w w []) := Lib.hid (Mine.refl w)
  go_enter Try.func67, Try.ntmps67
  go_wp2
  have M0 := Lib.hid ((HM0.out).own (own_emptyR w) ((Ext.refl' _).al _))
  go_loopw [3, 4] (fun u i wr => ∃ (k : Nat) (B : Option Addr) (m d : Nat), k ≤ 8 ∧ m ≤ k ∧ i = .int .i64 k ∧ u = .slice B m d ∧ Hid (Mine w wr [.row 84 2 B m d ((netTo l k).flatMap Row.cells)])) (fun _ i _ => 8 - (intOf i).toNat)
  case atStart => exact ⟨0, _, _, _, Nat.zero_le _, Nat.zero_le _, rfl, rfl, M0⟩
  case round =>
    obtain ⟨k, B, m, d, hk, hmk, rfl, rfl, M⟩ := hrel
    by_cases hlt : k < 8
    rotate_left
    · go_wp2
      go_ret
      have e : k = 8 := by omega
      subst e
      exact ⟨_, _, _, rfl, M.out⟩
    have hk8 : (k : Int) < 8 := by omega
    go_wp2_with fail
    refine (spec_Last _ _ _ l _ _ S (HS.out.ext M.out.ext) hm).mono ?_
    rintro e w2 ⟨rfl, x2⟩
    replace M := Lib.hid (M.out.on x2)
    clear x2
    cases hl : lastV l (k : Int) with
    | none =>
      have HN := Lib.hid (netTo_none hl)
      clear hl
      go_wp2
      go_roundw
      case rel => exact ⟨k + 1, B, m, d, by omega, by omega, by go_num, rfl, by rw [HN.out]; exact M⟩
      case measure => simp [intOf]; omega
    | some v =>
      have HN := Lib.hid (netTo_some hl)
      clear hl
      go_wp2_with (first | (at_builtin; refine Mine.wp_push M.out rfl _ _ 51 rfl 84 _ _ _ Try.underlying51 Try.infoRow rfl (by omega) 0 rfl rfl _ _ rfl rfl rfl (by simp [Value.oneCell']) (by omega) (by unfold maxLen; omega) ?_; intro A2 c2 w' M'; (try simp only [Act.put, List.setIfInBounds_toArray, List.set_cons_zero, List.set_cons_succ, List.drop_succ_cons, List.drop_zero, List.take_succ_cons, List.take_zero, putAt, ints_set, ints_push, List.getElem_toArray, List.getElem_cons_zero, List.getElem_cons_succ] at M'); replace M := Lib.hid M'; clear M'))
      rw [row_push, ← HN.out] at M
      go_roundw
      case rel => exact ⟨k + 1, _, m + 1, _, by omega, by omega, by go_num, rfl, M⟩
      case measure => simp [intOf]; omega


set_option maxHeartbeats 4000000 in
theorem impl_Net (A : Option Addr) (n c : Nat) (l : List Row) (w : World) (S : Nat → Prop) (hs : Sl w S 2 A n (l.flatMap Row.cells)) (hm : n ≤ 1048576) :
    Calls Try.prog 70 #[.slice A n c] w fun e w' => ∃ B m d, e = .returned (.slice B m d) ∧ Mine w w' [.row 84 2 B m d ((netR l).flatMap Row.cells)] := by
  have HS := Lib.hid hs
  cases hv : rowsOk l
  · have HZ : Hid (netR l = []) := net_bad hv 8
    go_enter Try.func70, Try.ntmps70
    go_wp2_with fail
    refine (impl_RowsOk _ _ _ l _ S hs hm).mono ?_
    rintro e w1 ⟨rfl, x1⟩
    rw [hv]
    go_wp2
    go_ret
    exact ⟨_, _, _, rfl, by rw [HZ.out]; exact (Mine.of x1).nil 84 2⟩
  clear hs
  go_enter Try.func70, Try.ntmps70
  go_wp2_with fail
  refine (impl_RowsOk _ _ _ l _ S HS.out hm).mono ?_
  rintro e w1 ⟨rfl, x1⟩
  rw [hv]
  clear hv
  have HM0 := Lib.hid (Mine.of x1)
  clear x1
  go_wp2
  have M0 := Lib.hid ((HM0.out).own (own_emptyR w1) ((Ext.refl' _).al _))
  go_loopw [3, 11] (fun u i wr => ∃ (k : Nat) (B : Option Addr) (m d : Nat), k ≤ 8 ∧ m ≤ k ∧ i = .int .i64 k ∧ u = .slice B m d ∧ Hid (Mine w wr [.row 84 2 B m d ((netTo l k).flatMap Row.cells)])) (fun _ i _ => 8 - (intOf i).toNat)
  case atStart => exact ⟨0, _, _, _, Nat.zero_le _, Nat.zero_le _, rfl, rfl, M0⟩
  case round =>
    obtain ⟨k, B, m, d, hk, hmk, rfl, rfl, M⟩ := hrel
    by_cases hlt : k < 8
    rotate_left
    · go_wp2
      go_ret
      have e : k = 8 := by omega
      subst e
      exact ⟨_, _, _, rfl, M.out⟩
    have hk8 : (k : Int) < 8 := by omega
    go_wp2_with fail
    refine (impl_Last _ _ _ l _ _ S (HS.out.ext M.out.ext) hm).mono ?_
    rintro e w2 ⟨rfl, x2⟩
    replace M := Lib.hid (M.out.on x2)
    clear x2
    cases hl : lastV l (k : Int) with
    | none =>
      have HN := Lib.hid (netTo_none hl)
      clear hl
      go_wp2
      go_roundw
      case rel => exact ⟨k + 1, B, m, d, by omega, by omega, by go_num, rfl, by rw [HN.out]; exact M⟩
      case measure => simp [intOf]; omega
    | some v =>
      have HN := Lib.hid (netTo_some hl)
      clear hl
      go_wp2_with (first | (at_builtin; refine Mine.wp_push M.out rfl _ _ 51 rfl 84 _ _ _ Try.underlying51 Try.infoRow rfl (by omega) 0 rfl rfl _ _ rfl rfl rfl (by simp [Value.oneCell']) (by omega) (by unfold maxLen; omega) ?_; intro A2 c2 w' M'; (try simp only [Act.put, List.setIfInBounds_toArray, List.set_cons_zero, List.set_cons_succ, List.drop_succ_cons, List.drop_zero, List.take_succ_cons, List.take_zero, putAt, ints_set, ints_push, List.getElem_toArray, List.getElem_cons_zero, List.getElem_cons_succ] at M'); replace M := Lib.hid M'; clear M'))
      rw [row_push, ← HN.out] at M
      go_roundw
      case rel => exact ⟨k + 1, _, m + 1, _, by omega, by omega, by go_num, rfl, M⟩
      case measure => simp [intOf]; omega

end Go.Proofs.Ytnhkjgnfjphllaa
