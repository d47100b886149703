/- ThingsOk of program and reference. No condition but sizes. Words of Opaque. No condition. -/
import Derived.Test.YtglplgbhhnmgbaaGreatOScr
import Derived.Test.YtglplgbhhnmgbaaGreatVals
import Derived.Test.YtglplgbhhnmgbaaGreatMineV
import Derived.Test.YtglplgbhhnmgbaaGreatFlat
import Derived.Test.YtglplgbhhnmgbaaGreatOFamI
import Derived.Test.YtglplgbhhnmgbaaGreatOFamS
import Derived.Test.YtglplgbhhnmgbaaGreatRegH
namespace Go.Proofs.YtglplgbhhnmgbaaGreat
open Go.RowKit Go.Deep
set_option linter.unusedSimpArgs false
set_option linter.unusedVariables false

def inMap (_ : Nat) (x : Int) : Prop := 0 ≤ x ∧ x ≤ 65536
noncomputable def mapOk (l : List Int) : Bool := dec (l.length = 8 ∧ AllTo inMap l l.length)
noncomputable def thingsOk (x : Things) : Bool := dec (valsOk x.cells_ = true ∧ mapOk x.map_ = true ∧ (0 ≤ x.count_ ∧ x.count_ ≤ 65535))
set_option maxHeartbeats 1000000 in
theorem isMap_any (A : Option Addr) (n c : Nat) (l : List Int) (w : World) (S : Nat → Prop) (hs : Sl w S 1 A n (ints l)) (hm : n ≤ 1048576) :
    Calls Tryz.prog 66 #[.slice A n c] w fun e w' => e = .returned (.bool (mapOk l)) ∧ w = w' := by
  have H := Lib.hid hs.len
  go_enter Tryz.func66, Tryz.ntmps66
  go_wp2
  go_loop [7] (fun i => ∃ k : Nat, k ≤ n ∧ i = .int .i64 k ∧ AllTo inMap l k) (fun i => n - (intOf i).toNat)
  case atStart => exact ⟨0, Nat.zero_le _, rfl, AllTo.zero _ _⟩
  case round =>
    obtain ⟨k, hk, rfl, hup⟩ := hrel
    have HU := Lib.hid hup
    clear hup
    by_cases hlt : k < n
    · obtain ⟨b, o, x, rfl, hb, hx, hc⟩ := hs.int_at hlt
      have HX := Lib.hid hx
      clear hx
      by_cases h0 : 0 ≤ x ∧ x ≤ 65536
      · have d0 : decide (0 ≤ x ∧ x ≤ 65536) = true := by simpa using h0
        go_wp2_with (go_at_call 68; refine (within_any _ _ _ _).mono ?_; rintro e w' ⟨rfl, rfl⟩)
        go_round
        case rel => exact ⟨k + 1, by omega, by go_num, HU.out.succ HX.out h0⟩
        case measure => simp [intOf]; omega
      · have d0 : decide (0 ≤ x ∧ x ≤ 65536) = false := by simpa using h0
        go_wp2_with (go_at_call 68; refine (within_any _ _ _ _).mono ?_; rintro e w' ⟨rfl, rfl⟩)
        go_ret
        exact ⟨by rw [mapOk, dec_no fun h => AllTo.not HX.out (by rw [H.out]; exact hlt) h0 h.2]; rfl, rfl⟩
    · have e : k = l.length := by rw [H.out]; omega
      by_cases h8 : n = 8
      · have b8 : ((n : Int) == 8) = true := by simp; omega
        have HY := Lib.hid (dec_yes (p := l.length = 8 ∧ AllTo inMap l l.length) ⟨by rw [H.out]; exact h8, by rw [← e]; exact HU.out⟩)
        clear h8 e
        go_wp2
        go_ret
        exact ⟨by rw [mapOk, HY.out]; rfl, rfl⟩
      · have b8 : ((n : Int) == 8) = false := by simp; omega
        have HY := Lib.hid (dec_no (p := l.length = 8 ∧ AllTo inMap l l.length) fun h => h8 (by rw [← H.out]; exact h.1))
        clear h8 e
        go_wp2
        go_ret
        exact ⟨by rw [mapOk, HY.out]; rfl, rfl⟩

set_option maxRecDepth 8000 in
set_option maxHeartbeats 4000000 in
theorem impl_ThingsOk (x : Things) (cs : List Value) (w : World) (S : Nat → Prop) (h : Things.R w S cs x) (_hw : Things.wt x ≤ 1048576) :
    Calls Tryz.prog 33 #[.agg cs.toArray] w fun e w' => e = .returned (.bool (thingsOk x)) ∧ Ext w w' := by
  obtain ⟨A0, n0, c0, A1, n1, c1, rfl, ⟨kh0, mh0, h0⟩, ⟨kh1, mh1, h1⟩⟩ := h
  have HA := Lib.hid h0
  have HB := Lib.hid h1
  have hl0 := h0.len
  have hl1 := h1.len
  have hn0 : n0 ≤ 1048576 := by unfold Things.wt at _hw; omega
  have hn1 : n1 ≤ 1048576 := by unfold Things.wt at _hw; omega
  clear h0 h1
  have M : Hid (Mine w (w.alloc (.cells #[.slice A0 n0 c0, .slice A1 n1 c1, .int .i64 x.count_] 42)) [.box w.heap.size 42 #[.slice A0 n0 c0, .slice A1 n1 c1, .int .i64 x.count_]]) := (Mine.refl w).box 42 #[.slice A0 n0 c0, .slice A1 n1 c1, .int .i64 x.count_]
  show Calls Tryz.prog _ #[.agg #[.slice A0 n0 c0, .slice A1 n1 c1, .int .i64 x.count_]] w _
  cases hv : valsOk x.cells_
  · have HZ : Hid (dec (valsOk x.cells_ = true ∧ mapOk x.map_ = true ∧ (0 ≤ x.count_ ∧ x.count_ ≤ 65535)) = false) := dec_no fun z => by rw [hv] at z; exact absurd z.1 (by simp)
    go_enter Tryz.func33, Tryz.ntmps33
    go_wp2_with (first | (go_at_call 65; (with_reducible refine (areValues_any A0 n0 c0 x.cells_ _ S (HA.out.ext M.out.ext) hn0).mono ?_); rintro e w' ⟨rfl, rfl⟩; rw [hv]) | ((with_reducible show wpList _ _ _ (⟨_, _, _, _, _, none⟩ :: _) _ _); first | (refine Mine.wp_get M.out rfl _ _ rfl 0 _ rfl rfl _ rfl _ (by first | exact Tryz.underlying3 | exact Tryz.underlying22) (by rfl) ?_; (try simp only [Act.put, List.setIfInBounds_toArray, List.set_cons_zero, List.set_cons_succ, List.drop_succ_cons, List.drop_zero, List.take_succ_cons, List.take_zero, putAt, ints_set, ints_push, List.getElem_toArray, List.getElem_cons_zero, List.getElem_cons_succ]))))
    go_ret
    exact ⟨by unfold thingsOk; rw [HZ.out]; rfl, M.out.ext⟩
  cases hmp : mapOk x.map_
  · have HZ : Hid (dec (valsOk x.cells_ = true ∧ mapOk x.map_ = true ∧ (0 ≤ x.count_ ∧ x.count_ ≤ 65535)) = false) := dec_no fun z => by rw [hmp] at z; exact absurd z.2.1 (by simp)
    go_enter Tryz.func33, Tryz.ntmps33
    go_wp2_with (first | (go_at_call 65; (with_reducible refine (areValues_any A0 n0 c0 x.cells_ _ S (HA.out.ext M.out.ext) hn0).mono ?_); rintro e w' ⟨rfl, rfl⟩; rw [hv]) | (go_at_call 66; (with_reducible refine (isMap_any A1 n1 c1 x.map_ _ S (HB.out.ext M.out.ext) hn1).mono ?_); rintro e w' ⟨rfl, rfl⟩; rw [hmp]) | ((with_reducible show wpList _ _ _ (⟨_, _, _, _, _, none⟩ :: _) _ _); first | (refine Mine.wp_get M.out rfl _ _ rfl 0 _ rfl rfl _ rfl _ (by first | exact Tryz.underlying3 | exact Tryz.underlying22) (by rfl) ?_; (try simp only [Act.put, List.setIfInBounds_toArray, List.set_cons_zero, List.set_cons_succ, List.drop_succ_cons, List.drop_zero, List.take_succ_cons, List.take_zero, putAt, ints_set, ints_push, List.getElem_toArray, List.getElem_cons_zero, List.getElem_cons_succ]))))
    go_ret
    exact ⟨by unfold thingsOk; rw [HZ.out]; rfl, M.out.ext⟩
  by_cases hc : 0 ≤ x.count_ ∧ x.count_ ≤ 65535
  · have HZ : Hid (dec (valsOk x.cells_ = true ∧ mapOk x.map_ = true ∧ (0 ≤ x.count_ ∧ x.count_ ≤ 65535)) = true) := dec_yes ⟨hv, hmp, hc⟩
    have dc : decide (0 ≤ x.count_ ∧ x.count_ ≤ 65535) = true := by simpa using hc
    clear hc
    go_enter Tryz.func33, Tryz.ntmps33
    go_wp2_with (first | (go_at_call 65; (with_reducible refine (areValues_any A0 n0 c0 x.cells_ _ S (HA.out.ext M.out.ext) hn0).mono ?_); rintro e w' ⟨rfl, rfl⟩; rw [hv]) | (go_at_call 66; (with_reducible refine (isMap_any A1 n1 c1 x.map_ _ S (HB.out.ext M.out.ext) hn1).mono ?_); rintro e w' ⟨rfl, rfl⟩; rw [hmp]) | (go_at_call 67; (with_reducible refine (isValue_any _ _).mono ?_); rintro e w' ⟨rfl, rfl⟩) | ((with_reducible show wpList _ _ _ (⟨_, _, _, _, _, none⟩ :: _) _ _); first | (refine Mine.wp_get M.out rfl _ _ rfl 0 _ rfl rfl _ rfl _ (by first | exact Tryz.underlying3 | exact Tryz.underlying22) (by rfl) ?_; (try simp only [Act.put, List.setIfInBounds_toArray, List.set_cons_zero, List.set_cons_succ, List.drop_succ_cons, List.drop_zero, List.take_succ_cons, List.take_zero, putAt, ints_set, ints_push, List.getElem_toArray, List.getElem_cons_zero, List.getElem_cons_succ]))))
    go_ret
    exact ⟨by unfold thingsOk; rw [HZ.out]; rfl, M.out.ext⟩
  · have HZ : Hid (dec (valsOk x.cells_ = true ∧ mapOk x.map_ = true ∧ (0 ≤ x.count_ ∧ x.count_ ≤ 65535)) = false) := dec_no fun z => hc z.2.2
    have dc : decide (0 ≤ x.count_ ∧ x.count_ ≤ 65535) = false := by simpa using hc
    clear hc
    go_enter Tryz.func33, Tryz.ntmps33
    go_wp2_with (first | (go_at_call 65; (with_reducible refine (areValues_any A0 n0 c0 x.cells_ _ S (HA.out.ext M.out.ext) hn0).mono ?_); rintro e w' ⟨rfl, rfl⟩; rw [hv]) | (go_at_call 66; (with_reducible refine (isMap_any A1 n1 c1 x.map_ _ S (HB.out.ext M.out.ext) hn1).mono ?_); rintro e w' ⟨rfl, rfl⟩; rw [hmp]) | (go_at_call 67; (with_reducible refine (isValue_any _ _).mono ?_); rintro e w' ⟨rfl, rfl⟩) | ((with_reducible show wpList _ _ _ (⟨_, _, _, _, _, none⟩ :: _) _ _); first | (refine Mine.wp_get M.out rfl _ _ rfl 0 _ rfl rfl _ rfl _ (by first | exact Tryz.underlying3 | exact Tryz.underlying22) (by rfl) ?_; (try simp only [Act.put, List.setIfInBounds_toArray, List.set_cons_zero, List.set_cons_succ, List.drop_succ_cons, List.drop_zero, List.take_succ_cons, List.take_zero, putAt, ints_set, ints_push, List.getElem_toArray, List.getElem_cons_zero, List.getElem_cons_succ]))))
    go_ret
    exact ⟨by unfold thingsOk; rw [HZ.out]; rfl, M.out.ext⟩
set_option maxRecDepth 8000 in
set_option maxHeartbeats 4000000 in
theorem spec_ThingsOk (x : Things) (cs : List Value) (w : World) (S : Nat → Prop) (h : Things.R w S cs x) (_hw : Things.wt x ≤ 1048576) :
    Calls Tryz.prog 20 #[.agg cs.toArray] w fun e w' => e = .returned (.bool (thingsOk x)) ∧ Ext w w' := by
  obtain ⟨A0, n0, c0, A1, n1, c1, rfl, ⟨kh0, mh0, h0⟩, ⟨kh1, mh1, h1⟩⟩ := h
  have HA := Lib.hid h0
  have HB := Lib.hid h1
  have hl0 := h0.len
  have hl1 := h1.len
  have hn0 : n0 ≤ 1048576 := by unfold Things.wt at _hw; omega
  have hn1 : n1 ≤ 1048576 := by unfold Things.wt at _hw; omega
  clear h0 h1
  have M : Hid (Mine w (w.alloc (.cells #[.slice A0 n0 c0, .slice A1 n1 c1, .int .i64 x.count_] 42)) [.box w.heap.size 42 #[.slice A0 n0 c0, .slice A1 n1 c1, .int .i64 x.count_]]) := (Mine.refl w).box 42 #[.slice A0 n0 c0, .slice A1 n1 c1, .int .i64 x.count_]
  show Calls Tryz.prog _ #[.agg #[.slice A0 n0 c0, .slice A1 n1 c1, .int .i64 x.count_]] w _
  cases hv : valsOk x.cells_
  · have HZ : Hid (dec (valsOk x.cells_ = true ∧ mapOk x.map_ = true ∧ (0 ≤ x.count_ ∧ x.count_ ≤ 65535)) = false) := dec_no fun z => by rw [hv] at z; exact absurd z.1 (by simp)
    go_enter Tryz.func20, Tryz.ntmps20
    go_wp2_with (first | (go_at_call 51; (with_reducible refine (l3Vals_any A0 n0 c0 x.cells_ _ S (HA.out.ext M.out.ext) hn0).mono ?_); rintro e w' ⟨rfl, rfl⟩; rw [hv]) | ((with_reducible show wpList _ _ _ (⟨_, _, _, _, _, none⟩ :: _) _ _); first | (refine Mine.wp_get M.out rfl _ _ rfl 0 _ rfl rfl _ rfl _ (by first | exact Tryz.underlying3 | exact Tryz.underlying22) (by rfl) ?_; (try simp only [Act.put, List.setIfInBounds_toArray, List.set_cons_zero, List.set_cons_succ, List.drop_succ_cons, List.drop_zero, List.take_succ_cons, List.take_zero, putAt, ints_set, ints_push, List.getElem_toArray, List.getElem_cons_zero, List.getElem_cons_succ]))))
    go_ret
    exact ⟨by unfold thingsOk; rw [HZ.out]; rfl, M.out.ext⟩
  by_cases h8 : n1 = 8
  rotate_left
  · have HZ : Hid (dec (valsOk x.cells_ = true ∧ mapOk x.map_ = true ∧ (0 ≤ x.count_ ∧ x.count_ ≤ 65535)) = false) := dec_no fun z => h8 (by have a := (dec_true z.2.1).1; omega)
    have b8 : ((n1 : Int) != 8) = true := by simp; omega
    clear h8
    go_enter Tryz.func20, Tryz.ntmps20
    go_wp2_with (first | (go_at_call 51; (with_reducible refine (l3Vals_any A0 n0 c0 x.cells_ _ S (HA.out.ext M.out.ext) hn0).mono ?_); rintro e w' ⟨rfl, rfl⟩; rw [hv]) | ((with_reducible show wpList _ _ _ (⟨_, _, _, _, _, none⟩ :: _) _ _); first | (refine Mine.wp_get M.out rfl _ _ rfl 0 _ rfl rfl _ rfl _ (by first | exact Tryz.underlying3 | exact Tryz.underlying22) (by rfl) ?_; (try simp only [Act.put, List.setIfInBounds_toArray, List.set_cons_zero, List.set_cons_succ, List.drop_succ_cons, List.drop_zero, List.take_succ_cons, List.take_zero, putAt, ints_set, ints_push, List.getElem_toArray, List.getElem_cons_zero, List.getElem_cons_succ]))))
    go_ret
    exact ⟨by unfold thingsOk; rw [HZ.out]; rfl, M.out.ext⟩
  have b8 : ((n1 : Int) != 8) = false := by simp; omega
  have H8 := Lib.hid h8
  clear h8
  by_cases hc : 0 ≤ x.count_ ∧ x.count_ ≤ 65535
  rotate_left
  · have HZ : Hid (dec (valsOk x.cells_ = true ∧ mapOk x.map_ = true ∧ (0 ≤ x.count_ ∧ x.count_ ≤ 65535)) = false) := dec_no fun z => hc z.2.2
    have dc : decide (0 ≤ x.count_ ∧ x.count_ ≤ 65535) = false := by simpa using hc
    clear hc
    go_enter Tryz.func20, Tryz.ntmps20
    go_wp2_with (first | (go_at_call 51; (with_reducible refine (l3Vals_any A0 n0 c0 x.cells_ _ S (HA.out.ext M.out.ext) hn0).mono ?_); rintro e w' ⟨rfl, rfl⟩; rw [hv]) | (go_at_call 52; (with_reducible refine (l3Val_any _ _).mono ?_); rintro e w' ⟨rfl, rfl⟩) | ((with_reducible show wpList _ _ _ (⟨_, _, _, _, _, none⟩ :: _) _ _); first | (refine Mine.wp_get M.out rfl _ _ rfl 0 _ rfl rfl _ rfl _ (by first | exact Tryz.underlying3 | exact Tryz.underlying22) (by rfl) ?_; (try simp only [Act.put, List.setIfInBounds_toArray, List.set_cons_zero, List.set_cons_succ, List.drop_succ_cons, List.drop_zero, List.take_succ_cons, List.take_zero, putAt, ints_set, ints_push, List.getElem_toArray, List.getElem_cons_zero, List.getElem_cons_succ]))))
    go_ret
    exact ⟨by unfold thingsOk; rw [HZ.out]; rfl, M.out.ext⟩
  have dc : decide (0 ≤ x.count_ ∧ x.count_ ≤ 65535) = true := by simpa using hc
  have HC := Lib.hid hc
  have HV := Lib.hid hv
  clear hc
  go_enter Tryz.func20, Tryz.ntmps20
  go_wp2_with (first | (go_at_call 51; (with_reducible refine (l3Vals_any A0 n0 c0 x.cells_ _ S (HA.out.ext M.out.ext) hn0).mono ?_); rintro e w' ⟨rfl, rfl⟩; rw [hv]) | (go_at_call 52; (with_reducible refine (l3Val_any _ _).mono ?_); rintro e w' ⟨rfl, rfl⟩) | ((with_reducible show wpList _ _ _ (⟨_, _, _, _, _, none⟩ :: _) _ _); first | (refine Mine.wp_get M.out rfl _ _ rfl 0 _ rfl rfl _ rfl _ (by first | exact Tryz.underlying3 | exact Tryz.underlying22) (by rfl) ?_; (try simp only [Act.put, List.setIfInBounds_toArray, List.set_cons_zero, List.set_cons_succ, List.drop_succ_cons, List.drop_zero, List.take_succ_cons, List.take_zero, putAt, ints_set, ints_push, List.getElem_toArray, List.getElem_cons_zero, List.getElem_cons_succ]))))
  clear b8 dc hv
  go_loopw [3] (fun iv wr => ∃ k : Nat, k ≤ n1 ∧ iv = .int .i64 k ∧ Hid (AllTo inMap x.map_ k) ∧ Hid (Mine w wr [.box w.heap.size 42 #[.slice A0 n0 c0, .slice A1 n1 c1, .int .i64 x.count_]])) (fun iv _ => n1 - (intOf iv).toNat)
  case atStart => exact ⟨0, Nat.zero_le _, rfl, AllTo.zero _ _, M⟩
  case round =>
    clear M
    obtain ⟨k, hk, rfl, HU, M⟩ := hrel
    by_cases hlt : (k : Int) < (n1 : Int)
    rotate_left
    · have HZ : Hid (dec (valsOk x.cells_ = true ∧ mapOk x.map_ = true ∧ (0 ≤ x.count_ ∧ x.count_ ≤ 65535)) = true) := dec_yes ⟨HV.out, dec_yes ⟨by rw [hl1]; exact H8.out, by rw [hl1, ← (show k = n1 by omega)]; exact HU.out⟩, HC.out⟩
      go_wp2_with (first | ((with_reducible show wpList _ _ _ (⟨_, _, _, _, _, none⟩ :: _) _ _); first | (refine Mine.wp_get M.out rfl _ _ rfl 0 _ rfl rfl _ rfl _ (by first | exact Tryz.underlying3 | exact Tryz.underlying22) (by rfl) ?_; (try simp only [Act.put, List.setIfInBounds_toArray, List.set_cons_zero, List.set_cons_succ, List.drop_succ_cons, List.drop_zero, List.take_succ_cons, List.take_zero, putAt, ints_set, ints_push, List.getElem_toArray, List.getElem_cons_zero, List.getElem_cons_succ]))))
      go_ret
      exact ⟨by unfold thingsOk; rw [HZ.out]; rfl, M.out.ext⟩
    have HLT : Hid (k < n1) := by show _ < _; omega
    obtain ⟨b, o, rfl⟩ := HB.out.addr (by omega)
    obtain ⟨v, hv, hb, cz⟩ := (HB.out.ext M.out.ext).int_cell (k := k) HLT.out
    have HX := Lib.hid hv
    clear hv
    by_cases h0 : 0 ≤ v ∧ v ≤ 65536
    rotate_left
    · have HZ : Hid (dec (valsOk x.cells_ = true ∧ mapOk x.map_ = true ∧ (0 ≤ x.count_ ∧ x.count_ ≤ 65535)) = false) := dec_no fun z => h0 ((dec_true z.2.1).2 k (by rw [hl1]; exact HLT.out) v HX.out)
      have d0 : decide (0 ≤ v ∧ v ≤ 65536) = false := by simpa using h0
      clear h0
      go_wp2_with (first | (go_at_call 53; (with_reducible refine (l1In_any _ _ _ _).mono ?_); rintro e w' ⟨rfl, rfl⟩) | ((with_reducible show wpList _ _ _ (⟨_, _, _, _, _, none⟩ :: _) _ _); first | (refine Mine.wp_get M.out rfl _ _ rfl 0 _ rfl rfl _ rfl _ (by first | exact Tryz.underlying3 | exact Tryz.underlying22) (by rfl) ?_; (try simp only [Act.put, List.setIfInBounds_toArray, List.set_cons_zero, List.set_cons_succ, List.drop_succ_cons, List.drop_zero, List.take_succ_cons, List.take_zero, putAt, ints_set, ints_push, List.getElem_toArray, List.getElem_cons_zero, List.getElem_cons_succ]))))
      go_ret
      exact ⟨by unfold thingsOk; rw [HZ.out]; rfl, M.out.ext⟩
    have d0 : decide (0 ≤ v ∧ v ≤ 65536) = true := by simpa using h0
    have H0 := Lib.hid h0
    clear h0
    go_wp2_with (first | (go_at_call 53; (with_reducible refine (l1In_any _ _ _ _).mono ?_); rintro e w' ⟨rfl, rfl⟩) | ((with_reducible show wpList _ _ _ (⟨_, _, _, _, _, none⟩ :: _) _ _); first | (refine Mine.wp_get M.out rfl _ _ rfl 0 _ rfl rfl _ rfl _ (by first | exact Tryz.underlying3 | exact Tryz.underlying22) (by rfl) ?_; (try simp only [Act.put, List.setIfInBounds_toArray, List.set_cons_zero, List.set_cons_succ, List.drop_succ_cons, List.drop_zero, List.take_succ_cons, List.take_zero, putAt, ints_set, ints_push, List.getElem_toArray, List.getElem_cons_zero, List.getElem_cons_succ]))))
    go_roundw
    case rel => exact ⟨k + 1, HLT.out, by go_num, Lib.hid (HU.out.succ HX.out H0.out), M⟩
    case measure => have := HLT.out; simp [intOf]; omega

end Go.Proofs.YtglplgbhhnmgbaaGreat

namespace Go.Proofs.YtglplgbhhnmgbaaGreat
open Go.RowKit Go.Deep
set_option linter.unusedSimpArgs false
set_option linter.unusedVariables false

theorem Root.at4 {w : World} {S : Nat → Prop} {row : List Value} {r : Root} (h : Root.R w S row r) : row.toArray[4]? = some (.int .i64 r.rv_) := by
  obtain ⟨A0, n0, c0, A1, n1, c1, A2, n2, c2, A3, n3, c3, A4, n4, c4, A5, n5, c5, A6, n6, c6, A7, n7, c7, A8, n8, c8, A9, n9, c9, A10, n10, c10, A11, n11, c11, A12, n12, c12, A13, n13, c13, rfl⟩ := Root.R_cells h
  rfl
theorem Root.at30 {w : World} {S : Nat → Prop} {row : List Value} {r : Root} (h : Root.R w S row r) : row.toArray[30]? = some (.int .i64 r.fam_.rv_) := by
  obtain ⟨A0, n0, c0, A1, n1, c1, A2, n2, c2, A3, n3, c3, A4, n4, c4, A5, n5, c5, A6, n6, c6, A7, n7, c7, A8, n8, c8, A9, n9, c9, A10, n10, c10, A11, n11, c11, A12, n12, c12, A13, n13, c13, rfl⟩ := Root.R_cells h
  rfl
set_option maxRecDepth 8000 in
theorem Root.fam_cs {w : World} {S : Nat → Prop} {row : List Value} {x : Root} (h : Root.R w S row x) : ∃ fcs : List Value, (row.drop 30).take 10 = fcs ∧ Family.R w S fcs x.fam_ := by
  obtain ⟨A0, n0, c0, A1, n1, c1, A2, n2, c2, A3, n3, c3, A4, n4, c4, A5, n5, c5, v6, v7, rfl, ⟨kh0, mh0, h0⟩, ⟨kh1, mh1, h1⟩, ⟨kh2, mh2, h2⟩, ⟨kh3, mh3, h3⟩, ⟨kh4, mh4, h4⟩, ⟨kh5, mh5, h5⟩, h6, h7⟩ := h
  obtain ⟨A6, n6, c6, A7, n7, c7, rfl⟩ := Commit.R_cells h6
  obtain ⟨A8, n8, c8, A9, n9, c9, A10, n10, c10, A11, n11, c11, A12, n12, c12, A13, n13, c13, rfl⟩ := Family.R_cells h7
  exact ⟨_, rfl, h7⟩
set_option maxRecDepth 8000 in
theorem Root.at13 {w : World} {S : Nat → Prop} {row : List Value} {x : Root} (h : Root.R w S row x) : ∃ (A : Option Addr) (n c : Nat), row.toArray[13]? = some (.slice A n c) ∧ Sl w S 2 A n (x.reads_.flatMap Row.cells) := by
  obtain ⟨A0, n0, c0, A1, n1, c1, A2, n2, c2, A3, n3, c3, A4, n4, c4, A5, n5, c5, v6, v7, rfl, ⟨kh0, mh0, h0⟩, ⟨kh1, mh1, h1⟩, ⟨kh2, mh2, h2⟩, ⟨kh3, mh3, h3⟩, ⟨kh4, mh4, h4⟩, ⟨kh5, mh5, h5⟩, h6, h7⟩ := h
  obtain ⟨A6, n6, c6, A7, n7, c7, rfl⟩ := Commit.R_cells h6
  obtain ⟨A8, n8, c8, A9, n9, c9, A10, n10, c10, A11, n11, c11, A12, n12, c12, A13, n13, c13, rfl⟩ := Family.R_cells h7
  exact ⟨_, _, _, rfl, h1⟩
theorem Root.R_one {w : World} {S : Nat → Prop} {row : List Value} {r : Root} (h : Root.R w S row r) : ∀ v ∈ row, v.oneCell' = true := by
  obtain ⟨A0, n0, c0, A1, n1, c1, A2, n2, c2, A3, n3, c3, A4, n4, c4, A5, n5, c5, A6, n6, c6, A7, n7, c7, A8, n8, c8, A9, n9, c9, A10, n10, c10, A11, n11, c11, A12, n12, c12, A13, n13, c13, rfl⟩ := Root.R_cells h
  simp [Value.oneCell']
def readOk (st : List Int) (_ : Nat) (r : Row) : Prop := st[r.cell_.toNat]? = some r.val_
def rootTrue (s : Script) (x : GWorld) (_ : Nat) (r : Root) : Prop := rowsOk r.reads_ = true ∧ AllTo (readOk (stateOf s.start_.cells_ x.hist_ r.rv_)) r.reads_ r.reads_.length ∧ famTrue (stateOf s.start_.cells_ x.hist_ r.fam_.rv_) r.fam_ = true
noncomputable def opaqueOf (s : Script) (x : GWorld) : Bool := dec ((thingsOk s.start_ = true ∧ histOk x.hist_ = true) ∧ AllTo (rootTrue s x) x.roots_ x.roots_.length)


end Go.Proofs.YtglplgbhhnmgbaaGreat
