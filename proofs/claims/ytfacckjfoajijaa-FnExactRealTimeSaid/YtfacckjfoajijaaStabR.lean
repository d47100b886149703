/- slices.rotateCmpFunc. No condition but lengths. -/
import Derived.Test.YtfacckjfoajijaaStabW
namespace Go.Proofs.Ytfacckjfoajijaa
open Go.RowKit Go.Deep
set_option linter.unusedSimpArgs false
set_option linter.unusedVariables false

set_option maxRecDepth 4000 in
set_option maxHeartbeats 4000000 in
theorem rotate_m {b w : World} {g n c gw : Nat} {fr : List Res} {P U V Q : List Int} {cl : Value} (M0 : Mine b w (.row 3 1 (some ⟨g, 0, none⟩) n c (ints (P ++ (U ++ (V ++ Q)))) :: fr)) (s m e0 : Nat) (hs : s = P.length) (hm : m = P.length + U.length) (he : e0 = P.length + U.length + V.length) (hu : 0 < U.length) (hv : 0 < V.length) (hn : n ≤ 1048576) :
    Calls Try.prog 130 #[.slice (some ⟨g, 0, none⟩) n c, .int .i64 s, .int .i64 m, .int .i64 e0, cl] w fun e w' => e = .returned (.tuple #[]) ∧ Mine b w' (.row 3 1 (some ⟨g, 0, none⟩) n c (ints (P ++ (V ++ (U ++ Q)))) :: fr) := by
  have hl : P.length + U.length + V.length + Q.length = n := by have h := M0.len1 0 rfl; rw [ints_length] at h; rw [← h]; simp; omega
  have M := Lib.hid M0
  have hs1 : s ≤ m := by omega
  have hm1 : m ≤ e0 := by omega
  have he1 : e0 ≤ n := by omega
  have HM : Hid (P.length = m - (m - s)) := by show _ = _; omega
  have HI : Hid (U.length = m - s) := by show _ = _; omega
  have HJ : Hid (V.length = e0 - m) := by show _ = _; omega
  have HI0 : Hid (0 < m - s) := by show _ < _; omega
  have HJ0 : Hid (0 < e0 - m) := by show _ < _; omega
  clear M0 hs hm he hu hv hl
  go_enter Try.func130, Try.ntmps130
  go_wp2
  go_loopw [10, 11] (fun iv jv wr => ∃ (i j : Nat) (P' U' V' Q' : List Int), iv = .int .i64 i ∧ jv = .int .i64 j ∧ 0 < i ∧ 0 < j ∧ i ≤ m ∧ m + j ≤ n ∧ Hid (P'.length + i = m) ∧ Hid (U'.length = i) ∧ Hid (V'.length = j) ∧ Hid (P' ++ (V' ++ (U' ++ Q')) = P ++ (V ++ (U ++ Q))) ∧ Hid (Mine b wr (.row 3 1 (some ⟨g, 0, none⟩) n c (ints (P' ++ (U' ++ (V' ++ Q')))) :: fr))) (fun iv jv _ => (intOf iv).toNat + (intOf jv).toNat)
  case atStart => exact ⟨m - s, e0 - m, P, U, V, Q, by congr 1; omega, by congr 1; omega, HI0.out, HJ0.out, by omega, by have := HJ0.out; omega, by show _ = _; have := HM.out; omega, HI, HJ, rfl, M⟩
  case round =>
    clear M HM HI HJ HI0 HJ0
    obtain ⟨i, j, P', U', V', Q', rfl, rfl, hi0, hj0, him, hjn, HP, HU, HV, HE, M⟩ := hrel
    have HI0 : Hid (0 < i) := hi0
    have HJ0 : Hid (0 < j) := hj0
    by_cases hij : i = j
    · subst hij
      have b0 : ((i : Int) != (i : Int)) = false := by simp
      go_wp2_with fail
      refine (swapRange_i (P := P') (X := U') (Z := []) (Y := V') (Q := Q') (by rw [List.nil_append]; exact M.out) (by rw [HV.out, HU.out]) (by have := HP.out; omega) (by have := HP.out; have := HU.out; simp; omega) (by have := HU.out; omega) (by omega)).mono ?_
      rintro e w1 ⟨rfl, M1⟩
      rw [List.nil_append, HE.out] at M1
      replace M := Lib.hid M1
      clear M1
      go_wp2
      first | refine bodyPost_ret (v := .tuple #[]) (by simp [results, Try.results130, go_sem]) rfl ?_ | refine bodyPost_end (v := .tuple #[]) (by simp [results, Try.results130, go_sem]) rfl ?_
      exact ⟨rfl, M.out⟩
    have b0 : ((i : Int) != (j : Int)) = true := by simp; omega
    by_cases hgt : (j : Int) < (i : Int)
    · have HG : Hid (j < i) := by show _ < _; omega
      clear hij
      go_wp2_with fail
      have e1 : U' = U'.take j ++ U'.drop j := (List.take_append_drop _ _).symm
      have M9 := M.out
      rw [e1, List.append_assoc] at M9
      refine (swapRange_i (P := P') (X := U'.take j) (Z := U'.drop j) (Y := V') (Q := Q') M9 (by have := HV.out; have := HU.out; have := HG.out; rw [List.length_take]; omega) (by have := HP.out; omega) (by have := HP.out; have := HU.out; have := HG.out; rw [List.length_take, List.length_drop]; omega) (by have := HU.out; have := HG.out; rw [List.length_take]; omega) (by omega)).mono ?_
      rintro e w1 ⟨rfl, M1⟩
      replace M := Lib.hid M1
      clear M1 M9
      go_wp2
      go_roundw
      case rel => exact ⟨i - j, j, P' ++ V', U'.drop j, U'.take j, Q', by congr 1; have := HG.out; omega, rfl, by have := HG.out; omega, HJ0.out, by omega, hjn, by show _ = _; have := HP.out; have := HV.out; have := HG.out; rw [List.length_append]; omega, by show _ = _; have := HU.out; rw [List.length_drop]; omega, by show _ = _; have := HU.out; have := HG.out; rw [List.length_take]; omega, by show _ = _; rw [← HE.out, ← List.append_assoc (U'.take j), List.take_append_drop, List.append_assoc], by simpa only [List.append_assoc] using M⟩
      case measure => have := HG.out; have := HJ0.out; simp [intOf]; omega
    have HG : Hid (i < j) := by show _ < _; omega
    clear hij
    go_wp2_with fail
    have e1 : V' = V'.take (j - i) ++ V'.drop (j - i) := (List.take_append_drop _ _).symm
    have M9 := M.out
    rw [e1, List.append_assoc] at M9
    refine (swapRange_i (P := P') (X := U') (Z := V'.take (j - i)) (Y := V'.drop (j - i)) (Q := Q') M9 (by have := HV.out; have := HU.out; have := HG.out; rw [List.length_drop]; omega) (by have := HP.out; omega) (by have := HP.out; have := HU.out; have := HV.out; have := HG.out; rw [List.length_take]; omega) (by have := HU.out; omega) (by omega)).mono ?_
    rintro e w1 ⟨rfl, M1⟩
    replace M := Lib.hid M1
    clear M1 M9
    go_wp2
    go_roundw
    case rel => exact ⟨i, j - i, P', V'.drop (j - i), V'.take (j - i), U' ++ Q', rfl, by congr 1; have := HG.out; omega, HI0.out, by have := HG.out; omega, him, by omega, HP, by show _ = _; have := HV.out; have := HG.out; rw [List.length_drop]; omega, by show _ = _; have := HV.out; have := HG.out; rw [List.length_take]; omega, by show _ = _; rw [← HE.out, ← List.append_assoc (V'.take (j - i)), List.take_append_drop], M⟩
    case measure => have := HG.out; have := HI0.out; simp [intOf]; omega
end Go.Proofs.Ytfacckjfoajijaa
