/- What a history is drawn of: values, cells, rows. No condition but the code's length. -/
import Derived.Test.YtnhkjgnfjphllaaDrawM
import Derived.Test.YtnhkjgnfjphllaaVStat
namespace Go.Proofs.Ytnhkjgnfjphllaa
open Go.RowKit Go.Deep
set_option linter.unusedSimpArgs false
set_option linter.unusedVariables false

theorem own_emptyRw (w : World) : (w.alloc (.cells #[] 84)).ownsRow w.heap.size 84 2 (.slice (some ⟨w.heap.size, 0, none⟩) 0 0) 0 (([] : List Row).flatMap Row.cells) :=
  World.ownsRow_lit w #[] 0 (Nat.le_refl _) (Nat.zero_le _) (by simp)
theorem rows_push (l : List Row) (a b : Int) : l.flatMap Row.cells ++ [.int .i64 a, .int .i64 b] = (l ++ [(⟨a, b⟩ : Row)]).flatMap Row.cells := by simp [Row.cells]
set_option maxHeartbeats 4000000 in
theorem l3Draw_m {b w : World} {g : Nat} {A : Option Addr} {n c : Nat} {bs : List UInt8} {fr : List Res} (C0 : CurM b w g A n c bs fr) (hn : n ≤ 1048576) : Calls Try.prog 86 #[.pointer (some ⟨g, 0, none⟩)] w fun e w' => (∃ x : Int, e = .returned (.int .i64 x)) ∧ CurM b w' g A n c bs fr := by
  have C := Lib.hid C0
  clear C0
  go_enter Try.func86, Try.ntmps86
  go_wp2_with fail
  refine (once_m C.out hn 6 (by omega)).mono ?_
  rintro e w1 ⟨⟨b1, rfl⟩, C1⟩
  replace C := Lib.hid C1
  clear C1
  cases b1
  · go_wp2_with fail
    refine (below_m C.out hn 9 (by omega)).mono ?_
    rintro e w1 ⟨⟨x, rfl, hx⟩, C1⟩
    replace C := Lib.hid C1
    clear C1
    go_wp2
    go_ret
    exact ⟨⟨x, rfl⟩, C.out⟩
  go_wp2_with fail
  refine (pick_m C.out hn [0, 65535, 65534, 256] (by simp) (by simp) _ rfl 4 rfl).mono ?_
  rintro e w2 ⟨⟨z, rfl, hz⟩, C1⟩
  replace C := Lib.hid C1
  clear C1 hz
  go_wp2
  go_ret
  exact ⟨⟨z, rfl⟩, C.out⟩
set_option maxHeartbeats 8000000 in
theorem l3DrawVals_m {b w : World} {g : Nat} {A : Option Addr} {n c : Nat} {bs : List UInt8} {fr : List Res} (C0 : CurM b w g A n c bs fr) (hn : n ≤ 1048576) : Calls Try.prog 75 #[.pointer (some ⟨g, 0, none⟩)] w fun e w' => ∃ (B : Option Addr) (m d : Nat) (zs : List Int), e = .returned (.slice B m d) ∧ m ≤ 8 ∧ CurM b w' g A n c bs (.row 3 1 B m d (ints zs) :: fr) := by
  have C := Lib.hid (C0.row ((Ext.refl' _).al _) (own_emptySt w))
  clear C0
  go_enter Try.func75, Try.ntmps75
  go_wp2
  go_loopw [3, 4] (fun u i wr => ∃ (m d : Nat) (B : Option Addr) (zs : List Int), m ≤ 8 ∧ u = .slice B m d ∧ i = .int .i64 m ∧ Hid (CurM b wr g A n c bs (.row 3 1 B m d (ints zs) :: fr))) (fun _ i _ => 8 - (intOf i).toNat)
  case atStart => exact ⟨0, _, _, [], by omega, rfl, rfl, C⟩
  case round =>
    clear C
    obtain ⟨m, d, B, zs, hm, rfl, rfl, C⟩ := hrel
    by_cases hlt : (m : Int) < 8
    rotate_left
    · go_wp2
      go_ret
      first | exact ⟨_, _, _, zs, rfl, hm, C.out⟩ | exact ⟨_, _, _, rfl, hm, zs, C.out⟩
    have HLT : Hid (m < 8) := by show _ < _; omega
    go_wp2_with fail
    refine (l3Draw_m C.out hn).mono ?_
    rintro e w1 ⟨⟨x, rfl⟩, C1⟩
    replace C := Lib.hid C1
    clear C1
    obtain ⟨i1, q1, i10, i11, M1⟩ := C.out.st
    have SLC := Lib.hid C.out.sl
    have M := Lib.hid M1
    clear M1 C
    go_wp2_with (first | (at_builtin; refine Mine.wp_push M.out rfl _ _ 22 rfl 3 _ _ _ Try.underlying22 Try.infoInt rfl (by omega) 1 rfl rfl _ _ rfl rfl rfl (by simp [Value.oneCell']) (by omega) (by unfold maxLen; omega) ?_; intro A2 c2 w' M'; (try simp only [Act.put, List.setIfInBounds_toArray, List.set_cons_zero, List.set_cons_succ, List.drop_succ_cons, List.drop_zero, List.take_succ_cons, List.take_zero, putAt, ints_set, ints_push, List.getElem_toArray, List.getElem_cons_zero, List.getElem_cons_succ] at M'); replace M := Lib.hid M'; clear M'))
    go_roundw
    case rel => exact ⟨m + 1, _, _, _, HLT.out, rfl, by go_num, ⟨⟨i1, q1, i10, i11, M.out⟩, SLC.out⟩⟩
    case measure => have := HLT.out; simp [intOf]; omega
set_option maxHeartbeats 4000000 in
theorem l4DrawCell_m {b w : World} {g : Nat} {A : Option Addr} {n c : Nat} {bs : List UInt8} {fr : List Res} (C0 : CurM b w g A n c bs fr) (hn : n ≤ 1048576) : Calls Try.prog 106 #[.pointer (some ⟨g, 0, none⟩)] w fun e w' => (∃ x : Int, e = .returned (.int .i64 x)) ∧ CurM b w' g A n c bs fr := by
  have C := Lib.hid C0
  clear C0
  go_enter Try.func106, Try.ntmps106
  go_wp2_with fail
  refine (once_m C.out hn 8 (by omega)).mono ?_
  rintro e w1 ⟨⟨b1, rfl⟩, C1⟩
  replace C := Lib.hid C1
  clear C1
  cases b1
  · skip
    go_wp2_with fail
    refine (below_m C.out hn 3 (by omega)).mono ?_
    rintro e w1 ⟨⟨x, rfl, hx⟩, C1⟩
    replace C := Lib.hid C1
    clear C1 hx
    go_wp2
    go_ret
    exact ⟨⟨x, rfl⟩, C.out⟩
  go_wp2_with fail
  refine (below_m C.out hn 8 (by omega)).mono ?_
  rintro e w1 ⟨⟨x, rfl, hx⟩, C1⟩
  replace C := Lib.hid C1
  clear C1 hx
  go_wp2
  go_ret
  exact ⟨⟨x, rfl⟩, C.out⟩
set_option maxHeartbeats 8000000 in
theorem l8Rows_m {b w : World} {g : Nat} {A : Option Addr} {n c : Nat} {bs : List UInt8} {fr : List Res} (C0 : CurM b w g A n c bs fr) (hn : n ≤ 1048576) (most : Nat) (hmost : (most : Int) ≤ 100) : Calls Try.prog 100 #[.pointer (some ⟨g, 0, none⟩), .int .i64 (most : Int)] w fun e w' => ∃ (B : Option Addr) (m d : Nat) (zs : List Row), e = .returned (.slice B m d) ∧ m ≤ 100 ∧ CurM b w' g A n c bs (.row 84 2 B m d (zs.flatMap Row.cells) :: fr) := by
  have C := Lib.hid (C0.row ((Ext.refl' _).al _) (own_emptyRw w))
  clear C0
  go_enter Try.func100, Try.ntmps100
  go_wp2_with fail
  refine (below_m C.out hn ((most : Int) + 1) (by omega)).mono ?_
  rintro e w1 ⟨⟨x0, rfl, hx0⟩, C1⟩
  replace C := Lib.hid C1
  clear C1
  have hx0b : x0 ≤ 100 := by omega
  have hx0a : 0 ≤ x0 := hx0.1
  clear hx0
  go_wp2
  go_loopw [5, 6] (fun u i wr => ∃ (m d : Nat) (B : Option Addr) (zs : List Row) (j : Int), u = .slice B m d ∧ i = .int .i64 j ∧ 0 ≤ j ∧ (m : Int) + j ≤ 100 ∧ Hid (CurM b wr g A n c bs (.row 84 2 B m d (zs.flatMap Row.cells) :: fr))) (fun _ i _ => (intOf i).toNat)
  case atStart => exact ⟨0, _, _, [], x0, rfl, rfl, hx0a, by omega, C⟩
  case round =>
    clear C
    obtain ⟨m, d, B, zs, j, rfl, rfl, hj0, hjm, C⟩ := hrel
    by_cases hj : (0 : Int) < j
    rotate_left
    · go_wp2
      go_ret
      first | exact ⟨_, _, _, zs, rfl, by omega, C.out⟩ | exact ⟨_, _, _, rfl, by omega, zs, C.out⟩
    have HJ : Hid (0 < j) := hj
    have HJM : Hid ((m : Int) + j ≤ 100) := hjm
    have hm1 : m ≤ 100 := by omega
    have hj1 : j ≤ 100 := by omega
    clear hjm hj0
    go_wp2_with fail
    refine (l4DrawCell_m C.out hn).mono ?_
    rintro e w1 ⟨⟨x, rfl⟩, C1⟩
    replace C := Lib.hid C1
    clear C1
    go_wp2_with fail
    refine (l3Draw_m C.out hn).mono ?_
    rintro e w1 ⟨⟨y, rfl⟩, C1⟩
    replace C := Lib.hid C1
    clear C1
    obtain ⟨i1, q1, i10, i11, M1⟩ := C.out.st
    have SLC := Lib.hid C.out.sl
    have M := Lib.hid M1
    clear M1 C
    go_wp2_with (first | (at_builtin; refine Mine.wp_push M.out rfl _ _ 51 rfl 84 _ _ _ Try.underlying51 Try.infoRow rfl (by omega) 1 rfl rfl _ _ rfl rfl rfl (by simp [Value.oneCell']) (by omega) (by unfold maxLen; omega) ?_; intro A2 c2 w' M'; (try simp only [Act.put, List.setIfInBounds_toArray, List.set_cons_zero, List.set_cons_succ, List.drop_succ_cons, List.drop_zero, List.take_succ_cons, List.take_zero, putAt, ints_set, ints_push, List.getElem_toArray, List.getElem_cons_zero, List.getElem_cons_succ] at M'); replace M := Lib.hid M'; clear M'))
    rw [rows_push] at M
    go_roundw
    case rel => exact ⟨_, _, _, _, _, rfl, by go_num, by have := HJ.out; omega, by have := HJM.out; omega, ⟨⟨i1, q1, i10, i11, M.out⟩, SLC.out⟩⟩
    case measure => have := HJ.out; simp [intOf]; omega
end Go.Proofs.Ytnhkjgnfjphllaa
