/- The parts of ReadWrote: taken, l24Vars. No condition but the length. -/
import Derived.Test.YtbclkgjjmpipfaaRwT
namespace Go.Proofs.Ytbclkgjjmpipfaa
open Go.RowKit Go.Deep

set_option maxHeartbeats 1000000 in
theorem taken_any (s : ByteArray) (hs : s.size ≤ 1099511627776) (w : World) :
    Calls Try.prog 51 #[.string s] w fun e w' => e = .returned (.tuple #[.int .i64 (rvN s.data.toList : Nat), .string (s.extract (rvK s.data.toList) s.size), .bool (decide (0 < rvK s.data.toList))]) ∧ Ext w w' := by
  have hk := rvK_le s.data.toList
  rw [show s.data.toList.length = s.size by simp] at hk
  go_enter Try.func51, Try.ntmps51
  go_wp2_with fail
  refine (impl_ReadVar _ hs _).mono ?_
  rintro e w1 ⟨rfl, x1⟩
  have hk1 : (0 : Int) ≤ ((rvK s.data.toList : Nat) : Int) := by omega
  have hk2 : ((rvK s.data.toList : Nat) : Int) ≤ (s.size : Int) := by omega
  have X1 := Lib.hid x1
  clear x1 hk
  go_wp2
  go_quiet (fail)
  go_wp2
  go_ret3
  exact ⟨by simp, X1.out.drN _⟩

theorem made_ints (m : Nat) (hm : m = 2 ∨ m = 3) : (madeCells (Value.int .i64 0).cells (m * 1)).toList = ints (List.replicate m 0) := by
  rcases hm with rfl | rfl <;> simp [madeCells, ints, Value.cells, List.replicate] <;> rfl
theorem own_empty9 (w : World) : (w.alloc (.cells #[] 3)).ownsRow w.heap.size 3 1 (.slice (some ⟨w.heap.size, 0, none⟩) 0 0) 0 (ints []) :=
  World.ownsRow_lit w #[] 0 (Nat.le_refl _) (Nat.zero_le _) (by simp)
/-- What l24Vars answers. -/
noncomputable def varsL (L : List UInt8) (p m : Nat) : List Int := ((vars L p m).map fun x => x.1).getD (List.replicate m 0)
noncomputable def varsP (L : List UInt8) (p m : Nat) : Int := ((vars L p m).map fun x => (x.2 : Int)).getD (-1)

set_option maxHeartbeats 4000000 in
theorem l24Vars_any (s : ByteArray) (hs : s.size ≤ 1099511627776) (p m : Nat) (hp : p ≤ s.size) (hm : m = 2 ∨ m = 3) (w : World) :
    Calls Try.prog 50 #[.string s, .int .i64 p, .int .i64 m] w fun e w' => ∃ B d, e = .returned (.tuple #[.slice B m d, .int .i64 (varsP s.data.toList p m)]) ∧
      w'.ownsRow w.heap.size 3 1 (.slice B m d) m (ints (varsL s.data.toList p m)) ∧ Ext w w' := by
  have oe := Lib.hid (own_empty9 w)
  have HM := Lib.hid hm
  have HS := Lib.hid hs
  clear hs
  go_enter Try.func50, Try.ntmps50
  go_wp2
  go_loopw [1, 8, 9] (fun a u i wr => ∃ (k q : Nat) (xs : List Int) (B : Option Addr) (d : Nat), k ≤ m ∧ q ≤ s.size ∧ i = .int .i64 k ∧ a = .int .i64 q ∧ u = .slice B k d ∧ vars s.data.toList p k = some (xs, q) ∧ wr.ownsRow w.heap.size 3 1 (.slice B k d) k (ints xs) ∧ Ext w wr) (fun _ _ i _ => m - (intOf i).toNat)
  case atStart => exact ⟨0, p, [], _, _, Nat.zero_le _, hp, rfl, rfl, rfl, rfl, oe.out, (Ext.refl' w).al _⟩
  case round =>
    obtain ⟨k, q, xs, B, d, hk, hq, rfl, rfl, rfl, hv, ho, hx⟩ := hrel
    have HV := Lib.hid hv
    have HO := Lib.hid ho
    have HX := Lib.hid hx
    have zx : w.heap.size ≤ wr.heap.size := hx.size
    clear hv ho hx
    by_cases hlt : (k : Int) < (m : Int)
    rotate_left
    · obtain rfl : k = m := by omega
      have H1 : Hid (varsL s.data.toList p k = xs ∧ varsP s.data.toList p k = (q : Int)) := by unfold varsL varsP; rw [HV.out]; exact ⟨rfl, rfl⟩
      go_wp2
      go_ret2
      exact ⟨B, d, by rw [H1.out.2]; rfl, by rw [H1.out.1]; exact HO.out, HX.out⟩
    have hq0 : (0 : Int) ≤ (q : Int) := by omega
    have hq1 : (q : Int) ≤ (s.size : Int) := by omega
    have HE := Lib.hid (ext_drop s q)
    have HK := Lib.hid (rvK_le (s.data.toList.drop q))
    have HKL : Hid (q + rvK (s.data.toList.drop q) ≤ s.size) := by have h := HK.out; rw [List.length_drop] at h; simp at h; show _ ≤ _; omega
    go_wp2_with fail
    refine (spec_ReadVar _ (Nat.le_trans (ext_size_le s q) HS.out) _).mono ?_
    rintro e w2 ⟨rfl, x2⟩
    rw [HE.out]
    have X2 := Lib.hid (HX.out.tr x2)
    have O2 := Lib.hid (own_ext HO.out x2)
    have z2 : w.heap.size ≤ w2.heap.size := X2.out.size
    clear x2
    by_cases h0 : rvK (s.data.toList.drop q) = 0
    · have HN := Lib.hid (vars_none (vars_fail HV.out h0) m (by omega))
      have H1 : Hid (varsL s.data.toList p m = List.replicate m 0 ∧ varsP s.data.toList p m = -1) := by unfold varsL varsP; rw [HN.out]; exact ⟨rfl, rfl⟩
      rw [h0]
      clear h0
      obtain ⟨w3, cs0, hmk, hown, hcs, hx3, hlt3⟩ := made_row (P := Try.prog) w2 48 3 _ _ _ Try.underlying48 Try.infoInt m (by have := HM.out; omega) (by unfold maxLen; have := HM.out; omega)
      rw [made_ints m HM.out] at hcs
      have HC := Lib.hid hcs
      have O3 := Lib.hid hown
      have X3 := Lib.hid (X2.out.tr hx3)
      clear hcs hown hx3
      go_wp2
      go_ret2
      exact ⟨_, _, by rw [H1.out.2]; rfl, by rw [H1.out.1, ← HC.out]; exact own_base O3.out z2, X3.out⟩
    have HV2 := Lib.hid (vars_step HV.out h0)
    have hn0 : (((rvK (s.data.toList.drop q) : Nat) : Int) == 0) = false := by simp; omega
    have hKq : ((rvK (s.data.toList.drop q) : Nat) : Int) ≤ 7 := by have h := rvK_le7 (s.data.toList.drop q); omega
    have HQ := Lib.hid hq
    have hk4 : k ≤ 3 := by have := HM.out; omega
    generalize rvK (s.data.toList.drop q) = K at h0 HV2 HKL HK hn0 hKq
    generalize rvN (s.data.toList.drop q) = N at HV2
    clear h0
    have hqb : (q : Int) ≤ 1099511627776 := by have := HS.out; have := HQ.out; omega
    go_wp2_with (at_builtin; refine wp_push rfl (.tmp 29) (.tmp 31) _ rfl w.heap.size 3 _ _ _ Try.underlying48 Try.infoInt rfl (by omega) B k d _ rfl O2.out [.int .i64 (N : Int)] _ (by simp) rfl rfl (by simp [Value.oneCell']) (by omega) (by unfold maxLen; omega) z2 ?_; intro A' c' w' hown' hchg' hat')
    go_roundw
    case rel => exact ⟨k + 1, q + K, xs ++ [(N : Int)], A', c', by omega, HKL.out, by go_num, by go_num, rfl, HV2.out, by rw [ints, List.map_append]; exact hown', hchg'.ext X2.out (fun g hg => by have := (O2.out.lt g hg).1; omega)⟩
    case measure => simp [intOf]; omega

end Go.Proofs.Ytbclkgjjmpipfaa
