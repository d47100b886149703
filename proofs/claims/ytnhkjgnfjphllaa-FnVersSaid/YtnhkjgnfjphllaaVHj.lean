/- The walk of l11Hist. No condition but the code's length. -/
import Derived.Test.YtnhkjgnfjphllaaVHi
namespace Go.Proofs.Ytnhkjgnfjphllaa
open Go.RowKit Go.Deep
set_option linter.unusedSimpArgs false
set_option linter.unusedVariables false

set_option maxRecDepth 4000 in
set_option maxHeartbeats 8000000 in
theorem l11Hist_m {b w : World} {g : Nat} {A : Option Addr} {n c : Nat} {bs : List UInt8} {fr : List Res} (C0 : CurM b w g A n c bs fr) (hn : n ≤ 1048576) : Calls Try.prog 87 #[.pointer (some ⟨g, 0, none⟩)] w fun e w' => ∃ (B : Option Addr) (m d : Nat), e = .returned (.slice B m d) ∧ m ≤ 5 ∧ HistM b w' g A n c bs fr B m d := by
  have C := Lib.hid (C0.row ((Ext.refl' _).al _) (own_emptyWr w))
  clear C0
  go_enter Try.func87, Try.ntmps87
  go_wp2_with fail
  refine (below_m C.out hn 6 (by omega)).mono ?_
  rintro e w1 ⟨⟨x0, rfl, hx0⟩, C1⟩
  replace C := Lib.hid C1
  clear C1
  have hx0b : x0 ≤ 5 := by omega
  have hx0a : 0 ≤ x0 := hx0.1
  clear hx0
  go_wp2
  go_loopw [3, 4, 5] (fun u at_ i wr => ∃ (m d : Nat) (B : Option Addr) (Z j : Int), u = .slice B m d ∧ at_ = .int .i64 Z ∧ i = .int .i64 j ∧ 0 ≤ j ∧ (m : Int) + j ≤ 5 ∧ 0 ≤ Z ∧ Z ≤ 3 * (m : Int) ∧ Hid (HistM b wr g A n c bs fr B m d)) (fun _ _ i _ => (intOf i).toNat)
  case atStart => exact ⟨0, _, _, 0, x0, rfl, rfl, rfl, hx0a, by omega, by omega, by omega, ⟨[], fun _ h => (by cases h), C.out⟩⟩
  case round =>
    clear C
    obtain ⟨m, d, B, Z, j, rfl, rfl, rfl, hj0, hjm, hZ0, hZ1, HA⟩ := hrel
    by_cases hj : (0 : Int) < j
    rotate_left
    · go_wp2
      go_ret
      exact ⟨_, _, _, rfl, by omega, HA.out⟩
    obtain ⟨es, h0, C1⟩ := HA.out
    have C := Lib.hid C1
    have HES := Lib.hid h0
    clear C1 HA h0
    have HJ : Hid (0 < j) := hj
    have HJM : Hid ((m : Int) + j ≤ 5) := hjm
    have HZ0 : Hid (0 ≤ Z) := hZ0
    have HZ1 : Hid (Z ≤ 3 * (m : Int)) := hZ1
    have hm5 : m ≤ 5 := by omega
    have hj5 : j ≤ 5 := by omega
    have hZ2 : Z ≤ 15 := by omega
    clear hjm hj0 hZ1
    go_wp2_with fail
    refine (below_m C.out hn 3 (by omega)).mono ?_
    rintro e w1 ⟨⟨x1, rfl, hx1⟩, C1⟩
    replace C := Lib.hid C1
    clear C1
    have hx1a : 0 ≤ x1 := hx1.1
    have hx1b : x1 ≤ 2 := by omega
    clear hx1
    go_wp2_with fail
    refine (below_m C.out hn 4 (by omega)).mono ?_
    rintro e w1 ⟨⟨x2, rfl, hx2⟩, C1⟩
    replace C := Lib.hid C1
    clear C1
    have hx2a : 0 ≤ x2 := hx2.1
    have hx2b : x2 ≤ 3 := by omega
    clear hx2
    go_wp2_with fail
    refine (l8Rows_m C.out hn 4 (by omega)).mono ?_
    rintro e w1 ⟨Bp, mp, dp, zs, rfl, hmp, C1⟩
    replace C := Lib.hid C1
    clear C1
    obtain ⟨i1, q1, i10, i11, M1⟩ := C.out.st
    have SLC := Lib.hid C.out.sl
    have M := Lib.hid M1
    clear M1 C
    have hzl : Hid (zs.length ≤ 100) := by have h := (M.out.row_sl 1 rfl).flen Row.cells_length (by omega); show _ ≤ _; omega
    go_wp2_with (first | ((with_reducible show wpList _ _ _ (⟨_, _, _, _, _, none⟩ :: _) _ _); first | (refine Mine.wp_alloc M.out rfl 64 rfl (.agg #[.int .i64 0, .int .i64 0, .slice none 0 0]) (by kernel_rfl) ?_; intro gx w' M'; (try simp only [Value.cells, Act.put, List.setIfInBounds_toArray, List.set_cons_zero, List.set_cons_succ, List.drop_succ_cons, List.drop_zero, List.take_succ_cons, List.take_zero, putAt, ints_set, ints_push, List.getElem_toArray, List.getElem_cons_zero, List.getElem_cons_succ] at M'); replace M := Lib.hid (M'.perm (List.Perm.swap _ _ _)); clear M'; (try simp only [Act.put, List.setIfInBounds_toArray, List.set_cons_zero, List.set_cons_succ, List.drop_succ_cons, List.drop_zero, List.take_succ_cons, List.take_zero, putAt, ints_set, ints_push, List.getElem_toArray, List.getElem_cons_zero, List.getElem_cons_succ])) | (refine Mine.wp_sets M.out rfl 64 _ _ rfl rfl 1 _ rfl rfl _ rfl (Nat.le_of_ble_eq_true rfl) (by simp [Value.oneCell']) (by kernel_rfl) ?_; intro w' M'; (try simp only [Act.put, List.setIfInBounds_toArray, List.set_cons_zero, List.set_cons_succ, List.drop_succ_cons, List.drop_zero, List.take_succ_cons, List.take_zero, putAt, ints_set, ints_push, List.getElem_toArray, List.getElem_cons_zero, List.getElem_cons_succ] at M'); replace M := Lib.hid M'; clear M')))
    have C : Hid (CurM _ _ _ _ _ _ _ _) := ⟨⟨i1, q1, i10, i11, M.out⟩, SLC.out⟩
    clear M SLC i10 i11
    refine (once_m C.out hn 3 (by omega)).mono ?_
    rintro e w1 ⟨⟨b1, rfl⟩, C1⟩
    replace C := Lib.hid C1
    clear C1
    obtain ⟨i1, q1, i10, i11, M1⟩ := C.out.st
    have SLC := Lib.hid C.out.sl
    have M := Lib.hid M1
    clear M1 C
    skip
    cases b1
    · go_wp2_with (first | (at_builtin; refine Mine.wp_push M.out rfl _ _ 58 rfl 64 _ _ _ Try.underlying58 Try.infoWrote rfl (by omega) 3 rfl rfl _ _ rfl rfl rfl (by simp [Value.oneCell']) (by omega) (by unfold maxLen; omega) ?_; intro A2 c2 w' M'; (try simp only [Act.put, List.setIfInBounds_toArray, List.set_cons_zero, List.set_cons_succ, List.drop_succ_cons, List.drop_zero, List.take_succ_cons, List.take_zero, putAt, ints_set, ints_push, List.getElem_toArray, List.getElem_cons_zero, List.getElem_cons_succ] at M'); replace M := Lib.hid M'; clear M') | ((with_reducible show wpList _ _ _ (⟨_, _, _, _, _, none⟩ :: _) _ _); first | (refine Mine.wp_gets M.out rfl 64 _ rfl 1 _ 3 rfl rfl (Nat.le_of_ble_eq_true rfl) _ Try.underlying64 (by rfl) (by kernel_rfl) ?_; (try simp only [Act.put, List.setIfInBounds_toArray, List.set_cons_zero, List.set_cons_succ, List.drop_succ_cons, List.drop_zero, List.take_succ_cons, List.take_zero, putAt, ints_set, ints_push, List.getElem_toArray, List.getElem_cons_zero, List.getElem_cons_succ]))))
      go_roundw
      case rel =>
        refine ⟨m + 1, _, _, _, _, rfl, rfl, by go_num, by have := HJ.out; omega, by have := HJM.out; omega, by have := HZ0.out; omega, by have := HZ1.out; omega, Lib.hid (HistM.behind (p := ((Bp, mp, dp), ⟨Z + 1 + x1, 1 + x2, zs⟩)) HES.out hzl.out ⟨⟨i1, q1, i10, i11, ?_⟩, SLC.out⟩)⟩
        exact M.out.sub (List.Sublist.cons_cons _ (List.Sublist.cons _ (List.Sublist.refl _)))
      case measure => have := HJ.out; simp [intOf]; omega
    go_wp2_with (first | (at_builtin; refine Mine.wp_pour (M.out.own (own_oneWr _ ((Bp, mp, dp), ⟨Z + 1 + x1, 1 + x2, zs⟩)) ((Ext.refl' _).al _)) rfl _ _ 58 rfl 64 _ _ _ Try.underlying58 Try.infoWrote rfl (by omega) 0 rfl rfl (fun _ => True) B m d _ rfl (Sl.ext (M.out.row_sl 3 rfl) ((Ext.refl' _).al _)) (ents_one es) (by omega) (by unfold maxLen; omega) ?_; intro A2 c2 w' M'; (try simp only [Act.put, List.setIfInBounds_toArray, List.set_cons_zero, List.set_cons_succ, List.drop_succ_cons, List.drop_zero, List.take_succ_cons, List.take_zero, putAt, ints_set, ints_push, List.getElem_toArray, List.getElem_cons_zero, List.getElem_cons_succ] at M'); replace M := Lib.hid M'; clear M') | ((with_reducible show wpList _ _ _ (⟨_, _, _, _, _, none⟩ :: _) _ _); first | (refine Mine.wp_gets M.out rfl 64 _ rfl 1 _ 3 rfl rfl (Nat.le_of_ble_eq_true rfl) _ Try.underlying64 (by rfl) (by kernel_rfl) ?_; (try simp only [Act.put, List.setIfInBounds_toArray, List.set_cons_zero, List.set_cons_succ, List.drop_succ_cons, List.drop_zero, List.take_succ_cons, List.take_zero, putAt, ints_set, ints_push, List.getElem_toArray, List.getElem_cons_zero, List.getElem_cons_succ]))))
    go_roundw
    case rel =>
      refine ⟨1 + m, _, _, _, _, rfl, rfl, by go_num, by have := HJ.out; omega, by have := HJM.out; omega, by have := HZ0.out; omega, by have := HZ1.out; omega, Lib.hid (HistM.front (p := ((Bp, mp, dp), ⟨Z + 1 + x1, 1 + x2, zs⟩)) HES.out hzl.out ⟨⟨i1, q1, i10, i11, ?_⟩, SLC.out⟩)⟩
      have M9 := (M.out.perm (List.Perm.swap _ _ _))
      exact M9.sub (List.Sublist.cons_cons _ (List.Sublist.cons_cons _ (List.Sublist.cons _ (List.Sublist.cons_cons _ (List.Sublist.cons _ (List.Sublist.refl _))))))
    case measure => have := HJ.out; simp [intOf]; omega
end Go.Proofs.Ytnhkjgnfjphllaa
