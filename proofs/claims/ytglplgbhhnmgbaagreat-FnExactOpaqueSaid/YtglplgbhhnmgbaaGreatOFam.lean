/- FamAt of program and reference. No condition but sizes. -/
import Derived.Test.YtglplgbhhnmgbaaGreatOM3
import Derived.Test.YtglplgbhhnmgbaaGreatMineA
import Derived.Lib.SliceRun
namespace Go.Proofs.YtglplgbhhnmgbaaGreat
open Go.RowKit Go.Deep
set_option linter.unusedSimpArgs false
set_option linter.unusedVariables false

theorem ints_at {D : List Int} {j : Nat} {x : Int} (h : D[j]? = some x) : (ints D)[j]? = some (.int .i64 x) := by simp [ints, h]
theorem Mine.wp_getgc {P : Program} {ops : Array Oper} {rest : List Oper} {o : Oper} {a : Act} {Q : Exit → Act → World → Prop} {b w : World} {rs : List Res} (M : Mine b w rs) (hw : Region.wanted o (yielded ops a.tmps) = true) (ty : TypeId) (x : Operand) (ho : o.op = .load ty x) (p : Addr) (v : Value) (hc : b.cell? p = some v ∧ p.block < b.heap.size) (hx : a.eval x = .pointer (some p))
    (d : TypeDesc) (hu : P.underlying ty = some d) (hd : d.isRow = false) (h : wpList P ops Q rest (a.put o.dst v) w) : wpList P ops Q (o :: rest) a w :=
  wpList_load_cellg hw ty x ho p hx v ((M.ext.cell hc.2).trans hc.1) d hu hd h
theorem isCell_is {x : Int} {v : Bool} (h : decide (0 ≤ x ∧ x ≤ 7) = v) (w : World) : Calls Tryz.prog 72 #[.int .i64 x] w fun e w' => e = .returned (.bool v) ∧ w = w' := h ▸ isCell_any x w
theorem l3Cell_is {x : Int} {v : Bool} (h : decide (0 ≤ x ∧ x ≤ 7) = v) (w : World) : Calls Tryz.prog 54 #[.int .i64 x] w fun e w' => e = .returned (.bool v) ∧ w = w' := h ▸ l3Cell_any x w
/-- A slice is compared with nil. -/
theorem wpList_eqlnil {P : Program} {ops : Array Oper} {rest : List Oper} {o : Oper} {a : Act} {Q : Exit → Act → World → Prop} {w : World} (hgd : o.guard = none) (t t2 : TypeId) (x y : Operand) (ho : o.op = .binOp .eql t x y t2) (e : TypeId) (ht : P.underlying t = some (.slice e)) {A : Option Addr} {n c n2 c2 : Nat} (hx : a.eval x = .slice A n c) (hy : a.eval y = .slice none n2 c2)
    (h : wpList P ops Q rest (a.put o.dst (.bool A.isNone)) w) : wpList P ops Q (o :: rest) a w :=
  wpList_plain hgd fun _ hK => by
    unfold Oper.wp execOp
    simp [ho, hx, hy, eqGuard, Go.Lib.run_eql_slice_nil w t e A n c n2 c2 ht, Result.andThen]
    exact hK _ _ h

set_option maxRecDepth 8000 in
set_option maxHeartbeats 8000000 in
theorem impl_FamAt (AB : Option Addr) (nB cB : Nat) (base : List Int) (x : Family) (cs : List Value) (N : Int) (w : World) (SB S : Nat → Prop) (hb : Sl w SB 1 AB nB (ints base)) (hbm : nB ≤ 1048576) (h : Family.R w S cs x) (_hw : Family.wt x ≤ 1048576) :
    Calls Tryz.prog 78 #[.slice AB nB cB, .agg cs.toArray, .int .i64 N] w fun e w' => ∃ B m d, e = .returned (.slice B m d) ∧ w'.ownsRow w.heap.size 3 1 (.slice B m d) m (ints (famAt base x N)) ∧ (m = 0 → B = none ∧ d = 0) ∧ Ext w w' := by
  have HFR := Lib.hid h
  obtain ⟨A0, n0, c0, A1, n1, c1, A2, n2, c2, A3, n3, c3, A4, n4, c4, A5, n5, c5, rfl, ⟨kh0, mh0, h0⟩, ⟨kh1, mh1, h1⟩, ⟨kh2, mh2, h2⟩, ⟨kh3, mh3, h3⟩, ⟨kh4, mh4, h4⟩, ⟨kh5, mh5, h5⟩⟩ := h
  have HB := Lib.hid hb
  have HST := Lib.hid h1
  have HOR := Lib.hid h3
  have HKI := Lib.hid h5
  have hl1 := h1.flen Row.cells_length (by omega)
  have hl3 := h3.len
  have hl5 : x.kids_.length = n5 := h5.1
  have hkl := wtl_len KidRun.wt x.kids_
  have HWT : Hid (Family.wt x ≤ 1048576) := _hw
  have hn1 : n1 ≤ 1048576 := by unfold Family.wt at _hw; omega
  have hn3 : n3 ≤ 1048576 := by unfold Family.wt at _hw; omega
  have hn5 : n5 ≤ 1048576 := by unfold Family.wt at _hw; omega
  clear hb h0 h1 h2 h3 h4 h5 hkl _hw
  have M : Hid (Mine w (w.alloc (.cells #[.int .i64 x.rv_, .int .i64 x.clock_, .int .i64 x.owner_, .bool x.lost_, .slice A0 n0 c0, .slice A1 n1 c1, .slice A2 n2 c2, .slice A3 n3 c3, .slice A4 n4 c4, .slice A5 n5 c5] 81)) [.box w.heap.size 81 #[.int .i64 x.rv_, .int .i64 x.clock_, .int .i64 x.owner_, .bool x.lost_, .slice A0 n0 c0, .slice A1 n1 c1, .slice A2 n2 c2, .slice A3 n3 c3, .slice A4 n4 c4, .slice A5 n5 c5]]) := (Mine.refl w).box 81 #[.int .i64 x.rv_, .int .i64 x.clock_, .int .i64 x.owner_, .bool x.lost_, .slice A0 n0 c0, .slice A1 n1 c1, .slice A2 n2 c2, .slice A3 n3 c3, .slice A4 n4 c4, .slice A5 n5 c5]
  show Calls Tryz.prog _ #[.slice AB nB cB, .agg #[.int .i64 x.rv_, .int .i64 x.clock_, .int .i64 x.owner_, .bool x.lost_, .slice A0 n0 c0, .slice A1 n1 c1, .slice A2 n2 c2, .slice A3 n3 c3, .slice A4 n4 c4, .slice A5 n5 c5], .int .i64 N] w _
  cases hv : valsOk base
  · have HN : Hid (famAt base x N = []) := famAt_no fun h => by rw [hv] at h; exact absurd h.1 (by simp)
    go_enter Tryz.func78, Tryz.ntmps78
    go_wp2_with (first | (go_at_call 65; (with_reducible refine (areValues_any _ _ _ base _ SB (HB.out.ext M.out.ext) hbm).mono ?_); rintro e w' ⟨rfl, rfl⟩; rw [hv]) | ((with_reducible show wpList _ _ _ (⟨_, _, _, _, _, none⟩ :: _) _ _); first | (refine Mine.wp_get M.out rfl _ _ rfl 0 _ rfl rfl _ rfl _ (by first | exact Tryz.underlying3 | exact Tryz.underlying22 | exact Tryz.underlying71 | exact Tryz.underlying79 | exact Tryz.underlying78) (by rfl) ?_; (try simp only [Act.put, List.setIfInBounds_toArray, List.set_cons_zero, List.set_cons_succ, List.drop_succ_cons, List.drop_zero, List.take_succ_cons, List.take_zero, putAt, ints_set, ints_push, List.getElem_toArray, List.getElem_cons_zero, List.getElem_cons_succ]))) | ((with_reducible show wpList _ _ _ (⟨_, .load _ _, _, _, _, some _⟩ :: _) _ _); first | (refine Mine.wp_getg M.out (by rfl) _ _ rfl 0 _ rfl rfl _ rfl _ (by first | exact Tryz.underlying3 | exact Tryz.underlying22 | exact Tryz.underlying71 | exact Tryz.underlying79 | exact Tryz.underlying78) (by rfl) ?_; (try simp only [Act.put, List.setIfInBounds_toArray, List.set_cons_zero, List.set_cons_succ, List.drop_succ_cons, List.drop_zero, List.take_succ_cons, List.take_zero, putAt, ints_set, ints_push, List.getElem_toArray, List.getElem_cons_zero, List.getElem_cons_succ]))))
    go_ret
    have M9 := M.out.nil 3 1
    rw [HN.out]
    exact ⟨_, 0, 0, rfl, M9.row_at 0 rfl, fun _ => ⟨rfl, rfl⟩, M9.ext⟩
  cases hr : rowsOk x.start_
  · have HN : Hid (famAt base x N = []) := famAt_no fun h => by rw [hr] at h; exact absurd h.2 (by simp)
    go_enter Tryz.func78, Tryz.ntmps78
    go_wp2_with (first | (go_at_call 65; (with_reducible refine (areValues_any _ _ _ base _ SB (HB.out.ext M.out.ext) hbm).mono ?_); rintro e w' ⟨rfl, rfl⟩; rw [hv]) | (go_at_call 35; (with_reducible refine (impl_RowsOk A1 n1 c1 x.start_ _ S (HST.out.ext M.out.ext) hn1).mono ?_); rintro e w' ⟨rfl, x9⟩; replace M := Lib.hid (M.out.on x9); clear x9; rw [hr]) | ((with_reducible show wpList _ _ _ (⟨_, _, _, _, _, none⟩ :: _) _ _); first | (refine Mine.wp_get M.out rfl _ _ rfl 0 _ rfl rfl _ rfl _ (by first | exact Tryz.underlying3 | exact Tryz.underlying22 | exact Tryz.underlying71 | exact Tryz.underlying79 | exact Tryz.underlying78) (by rfl) ?_; (try simp only [Act.put, List.setIfInBounds_toArray, List.set_cons_zero, List.set_cons_succ, List.drop_succ_cons, List.drop_zero, List.take_succ_cons, List.take_zero, putAt, ints_set, ints_push, List.getElem_toArray, List.getElem_cons_zero, List.getElem_cons_succ]))) | ((with_reducible show wpList _ _ _ (⟨_, .load _ _, _, _, _, some _⟩ :: _) _ _); first | (refine Mine.wp_getg M.out (by rfl) _ _ rfl 0 _ rfl rfl _ rfl _ (by first | exact Tryz.underlying3 | exact Tryz.underlying22 | exact Tryz.underlying71 | exact Tryz.underlying79 | exact Tryz.underlying78) (by rfl) ?_; (try simp only [Act.put, List.setIfInBounds_toArray, List.set_cons_zero, List.set_cons_succ, List.drop_succ_cons, List.drop_zero, List.take_succ_cons, List.take_zero, putAt, ints_set, ints_push, List.getElem_toArray, List.getElem_cons_zero, List.getElem_cons_succ]))))
    go_ret
    have M9 := M.out.nil 3 1
    rw [HN.out]
    exact ⟨_, 0, 0, rfl, M9.row_at 0 rfl, fun _ => ⟨rfl, rfl⟩, M9.ext⟩
  have HV := Lib.hid hv
  have HR := Lib.hid hr
  go_enter Tryz.func78, Tryz.ntmps78
  go_wp2_with (first | (go_at_call 65; (with_reducible refine (areValues_any _ _ _ base _ SB (HB.out.ext M.out.ext) hbm).mono ?_); rintro e w' ⟨rfl, rfl⟩; rw [hv]) | (go_at_call 35; (with_reducible refine (impl_RowsOk A1 n1 c1 x.start_ _ S (HST.out.ext M.out.ext) hn1).mono ?_); rintro e w' ⟨rfl, x9⟩; replace M := Lib.hid (M.out.on x9); clear x9; rw [hr]) | (go_at_call 77; (with_reducible refine (impl_Overlay AB nB cB base A1 n1 c1 x.start_ _ SB (HB.out.ext M.out.ext) hbm S (HST.out.ext M.out.ext) hn1).mono ?_); rintro e w5 ⟨B, m, d, rfl, o5, x5⟩; replace M := Lib.hid (M.out.own o5 x5); clear o5 x5) | ((with_reducible show wpList _ _ _ (⟨_, _, _, _, _, none⟩ :: _) _ _); first | (refine Mine.wp_get M.out rfl _ _ rfl 0 _ rfl rfl _ rfl _ (by first | exact Tryz.underlying3 | exact Tryz.underlying22 | exact Tryz.underlying71 | exact Tryz.underlying79 | exact Tryz.underlying78) (by rfl) ?_; (try simp only [Act.put, List.setIfInBounds_toArray, List.set_cons_zero, List.set_cons_succ, List.drop_succ_cons, List.drop_zero, List.take_succ_cons, List.take_zero, putAt, ints_set, ints_push, List.getElem_toArray, List.getElem_cons_zero, List.getElem_cons_succ])) | (refine Mine.wp_get M.out rfl _ _ rfl 1 _ rfl rfl _ rfl _ (by first | exact Tryz.underlying3 | exact Tryz.underlying22 | exact Tryz.underlying71 | exact Tryz.underlying79 | exact Tryz.underlying78) (by rfl) ?_; (try simp only [Act.put, List.setIfInBounds_toArray, List.set_cons_zero, List.set_cons_succ, List.drop_succ_cons, List.drop_zero, List.take_succ_cons, List.take_zero, putAt, ints_set, ints_push, List.getElem_toArray, List.getElem_cons_zero, List.getElem_cons_succ]))) | ((with_reducible show wpList _ _ _ (⟨_, .load _ _, _, _, _, some _⟩ :: _) _ _); first | (refine Mine.wp_getg M.out (by rfl) _ _ rfl 0 _ rfl rfl _ rfl _ (by first | exact Tryz.underlying3 | exact Tryz.underlying22 | exact Tryz.underlying71 | exact Tryz.underlying79 | exact Tryz.underlying78) (by rfl) ?_; (try simp only [Act.put, List.setIfInBounds_toArray, List.set_cons_zero, List.set_cons_succ, List.drop_succ_cons, List.drop_zero, List.take_succ_cons, List.take_zero, putAt, ints_set, ints_push, List.getElem_toArray, List.getElem_cons_zero, List.getElem_cons_succ]))))
  clear hv hr
  obtain rfl : m = 8 := by have h1 := M.out.len1 0 rfl; rw [ints_length] at h1; rw [← h1]; exact (valsOk_len (famTo_ok HV.out HR.out 0))
  obtain ⟨g, rfl⟩ := M.out.addr 0 rfl (by omega)
  go_loopw [7, 26] (fun u iv wr => ∃ (i d g : Nat), i ≤ n3 ∧ u = .slice (some ⟨g, 0, none⟩) 8 d ∧ iv = .int .i64 i ∧ Hid (Mine w wr [.row 3 1 (some ⟨g, 0, none⟩) 8 d (ints (famTo base x (min i N.toNat))), .box w.heap.size 81 #[.int .i64 x.rv_, .int .i64 x.clock_, .int .i64 x.owner_, .bool x.lost_, .slice A0 n0 c0, .slice A1 n1 c1, .slice A2 n2 c2, .slice A3 n3 c3, .slice A4 n4 c4, .slice A5 n5 c5]])) (fun _ iv _ => n3 - (intOf iv).toNat)
  case atStart => exact ⟨0, d, g, Nat.zero_le _, rfl, rfl, by rw [Nat.zero_min]; exact M⟩
  case round =>
    clear M
    obtain ⟨i, d, g, hi, rfl, rfl, M⟩ := hrel
    by_cases hlt : (i : Int) < (n3 : Int)
    rotate_left
    · have HZ : Hid (famAt base x N = famTo base x (min i N.toNat)) := by show _ = _; rw [famAt_yes ⟨HV.out, HR.out⟩, hl3, ← (show i = n3 by omega)]
      go_wp2
      go_ret
      rw [HZ.out]
      exact ⟨_, _, _, rfl, M.out.row_at 0 rfl, (by intro h; simp at h), M.out.ext⟩
    have HLT : Hid (i < n3) := by show _ < _; omega
    obtain ⟨bo, oo, rfl⟩ := HOR.out.addr (by omega)
    obtain ⟨kk, hkk, hbo, hco⟩ := HOR.out.int_cell (k := i) HLT.out
    have HX := Lib.hid hkk
    have HOC : Hid (w.cell? ⟨bo, oo + i, none⟩ = some (.int .i64 kk) ∧ bo < w.heap.size) := ⟨hco, hbo⟩
    clear hkk hbo hco
    by_cases hN : (i : Int) < N
    rotate_left
    · have bN : decide ((i : Int) < N) = false := decide_eq_false hN
      have HMN : Hid (min (i + 1) N.toNat = min i N.toNat) := by show _ = _; omega
      clear hN
      go_wp2_with (first | ((with_reducible show wpList _ _ _ (⟨_, _, _, _, _, none⟩ :: _) _ _); first | (refine Mine.wp_get M.out rfl _ _ rfl 1 _ rfl rfl _ rfl _ (by first | exact Tryz.underlying3 | exact Tryz.underlying22 | exact Tryz.underlying71 | exact Tryz.underlying79 | exact Tryz.underlying78) (by rfl) ?_; (try simp only [Act.put, List.setIfInBounds_toArray, List.set_cons_zero, List.set_cons_succ, List.drop_succ_cons, List.drop_zero, List.take_succ_cons, List.take_zero, putAt, ints_set, ints_push, List.getElem_toArray, List.getElem_cons_zero, List.getElem_cons_succ])) | (refine Mine.wp_argc M.out rfl 3 _ rfl _ _ HOC.out rfl _ Tryz.underlying3 (by rfl) ?_; (try simp only [Act.put, List.setIfInBounds_toArray, List.set_cons_zero, List.set_cons_succ, List.drop_succ_cons, List.drop_zero, List.take_succ_cons, List.take_zero, putAt, ints_set, ints_push, List.getElem_toArray, List.getElem_cons_zero, List.getElem_cons_succ]))) | ((with_reducible show wpList _ _ _ (⟨_, .load _ _, _, _, _, some _⟩ :: _) _ _); first | (refine Mine.wp_getg M.out (by rfl) _ _ rfl 1 _ rfl rfl _ rfl _ (by first | exact Tryz.underlying3 | exact Tryz.underlying22 | exact Tryz.underlying71 | exact Tryz.underlying79 | exact Tryz.underlying78) (by rfl) ?_; (try simp only [Act.put, List.setIfInBounds_toArray, List.set_cons_zero, List.set_cons_succ, List.drop_succ_cons, List.drop_zero, List.take_succ_cons, List.take_zero, putAt, ints_set, ints_push, List.getElem_toArray, List.getElem_cons_zero, List.getElem_cons_succ]))))
      go_roundw
      case rel => exact ⟨i + 1, _, _, HLT.out, rfl, by go_num, Lib.hid (by rw [HMN.out]; exact M.out)⟩
      case measure => have := HLT.out; simp [intOf]; omega
    have bN : decide ((i : Int) < N) = true := decide_eq_true hN
    have HMI : Hid (min i N.toNat = i) := by show _ = _; omega
    have HMN : Hid (min (i + 1) N.toNat = i + 1) := by show _ = _; omega
    rw [HMI.out] at M
    clear hN
    by_cases h2 : 0 ≤ kk ∧ kk ≤ (n5 : Int) - 1
    rotate_left
    · have d2 : decide (0 ≤ kk ∧ kk ≤ (n5 : Int) - 1) = false := by simp only [decide_eq_false_iff_not]; exact h2
      have HNO : Hid (famTo base x (i + 1) = famTo base x i) := famTo_no HX.out fun q => h2 (by have := q.1; omega)
      clear h2
      go_wp2_with (first | (go_at_call 68; (with_reducible refine (within_any _ _ _ _).mono ?_); rintro e w' ⟨rfl, rfl⟩) | ((with_reducible show wpList _ _ _ (⟨_, _, _, _, _, none⟩ :: _) _ _); first | (refine Mine.wp_get M.out rfl _ _ rfl 1 _ rfl rfl _ rfl _ (by first | exact Tryz.underlying3 | exact Tryz.underlying22 | exact Tryz.underlying71 | exact Tryz.underlying79 | exact Tryz.underlying78) (by rfl) ?_; (try simp only [Act.put, List.setIfInBounds_toArray, List.set_cons_zero, List.set_cons_succ, List.drop_succ_cons, List.drop_zero, List.take_succ_cons, List.take_zero, putAt, ints_set, ints_push, List.getElem_toArray, List.getElem_cons_zero, List.getElem_cons_succ])) | (refine Mine.wp_argc M.out rfl 3 _ rfl _ _ HOC.out rfl _ Tryz.underlying3 (by rfl) ?_; (try simp only [Act.put, List.setIfInBounds_toArray, List.set_cons_zero, List.set_cons_succ, List.drop_succ_cons, List.drop_zero, List.take_succ_cons, List.take_zero, putAt, ints_set, ints_push, List.getElem_toArray, List.getElem_cons_zero, List.getElem_cons_succ]))) | ((with_reducible show wpList _ _ _ (⟨_, .load _ _, _, _, _, some _⟩ :: _) _ _); first | (refine Mine.wp_getg M.out (by rfl) _ _ rfl 1 _ rfl rfl _ rfl _ (by first | exact Tryz.underlying3 | exact Tryz.underlying22 | exact Tryz.underlying71 | exact Tryz.underlying79 | exact Tryz.underlying78) (by rfl) ?_; (try simp only [Act.put, List.setIfInBounds_toArray, List.set_cons_zero, List.set_cons_succ, List.drop_succ_cons, List.drop_zero, List.take_succ_cons, List.take_zero, putAt, ints_set, ints_push, List.getElem_toArray, List.getElem_cons_zero, List.getElem_cons_succ]))))
      go_roundw
      case rel => exact ⟨i + 1, _, _, HLT.out, rfl, by go_num, Lib.hid (by rw [HMN.out, HNO.out]; exact M.out)⟩
      case measure => have := HLT.out; simp [intOf]; omega
    have d2 : decide (0 ≤ kk ∧ kk ≤ (n5 : Int) - 1) = true := by simp only [decide_eq_true_eq]; exact h2
    obtain ⟨j, rfl⟩ : ∃ j : Nat, kk = (j : Int) := ⟨kk.toNat, by omega⟩
    have hj : j < n5 := by omega
    have hj1 : (j : Int) < (n5 : Int) := by omega
    have HJ := Lib.hid hj
    obtain ⟨bk, ok, rfl⟩ := HKI.out.addr (by omega)
    obtain ⟨y, row, hky, hkb, hq, hkc⟩ := HKI.out.at_ HJ.out
    have HRW := Lib.hid hq
    have HRG := Lib.hid (SlR.range KidRun.R_good hq hkc)
    have hlr := KidRun.R_good.len hq
    have HKY := Lib.hid hky
    have hyw : KidRun.wt y ≤ 1048576 := by have h1 := wtl_at KidRun.wt hky; have h2 := HWT.out; unfold Family.wt at h2; omega
    obtain ⟨K0, kn0, kc0, K1, kn1, kc1, K2, kn2, kc2, K3, kn3, kc3, rfl, ⟨khq0, mhq0, hq0⟩, ⟨khq1, mhq1, hq1⟩, ⟨khq2, mhq2, hq2⟩, ⟨khq3, mhq3, hq3⟩⟩ := hq
    have HWR : Hid (Sl w S 2 K2 kn2 (y.writes_.flatMap Row.cells)) := hq2
    have HSN : Hid (Sl w S 3 K1 kn1 (y.seen_.flatMap Entry.cells)) := hq1
    have hkn2 : kn2 ≤ 1048576 := by have h1 := hq2.flen Row.cells_length (by omega); unfold KidRun.wt at hyw; omega
    have hsl : y.seen_.length = kn1 := hq1.flen Entry.cells_length (by omega)
    have hkn1 : kn1 ≤ 1048576 := by unfold KidRun.wt at hyw; omega
    have HC2 : Hid (w.cell? ⟨bk, ok + j * 15 + 2, none⟩ = some (.int .i64 y.since_) ∧ bk < w.heap.size) := ⟨hkc 2 (by omega), hkb⟩
    have HC7 : Hid (w.cell? ⟨bk, ok + j * 15 + 7, none⟩ = some (.slice K1 kn1 kc1) ∧ bk < w.heap.size) := ⟨hkc 7 (by omega), hkb⟩
    have HC8 : Hid (w.cell? ⟨bk, ok + j * 15 + 8, none⟩ = some (.slice K2 kn2 kc2) ∧ bk < w.heap.size) := ⟨hkc 8 (by omega), hkb⟩
    have HKB := Lib.hid hkb
    have HKAT : Hid (kidAt x (j : Int) = y) := by show _ = _; unfold kidAt; rw [Int.toNat_natCast, List.getD_eq_getElem?_getD, HKY.out]; rfl
    clear hky hkb hkc hlr hyw hq0 hq1 hq2 hq3
    cases h3 : rowsOk y.writes_
    · have HNO : Hid (famTo base x (i + 1) = famTo base x i) := famTo_no HX.out fun q => by have h := q.2; rw [HKAT.out, h3] at h; exact absurd h (by simp)
      go_wp2_with (first | (go_at_call 68; (with_reducible refine (within_any _ _ _ _).mono ?_); rintro e w' ⟨rfl, rfl⟩) | (go_at_call 35; (with_reducible refine (impl_RowsOk K2 kn2 kc2 y.writes_ _ S (HWR.out.ext M.out.ext) hkn2).mono ?_); rintro e w' ⟨rfl, x9⟩; replace M := Lib.hid (M.out.on x9); clear x9; rw [h3]) | ((with_reducible show wpList _ _ _ (⟨_, _, _, _, _, none⟩ :: _) _ _); first | (refine Mine.wp_get M.out rfl _ _ rfl 1 _ rfl rfl _ rfl _ (by first | exact Tryz.underlying3 | exact Tryz.underlying22 | exact Tryz.underlying71 | exact Tryz.underlying79 | exact Tryz.underlying78) (by rfl) ?_; (try simp only [Act.put, List.setIfInBounds_toArray, List.set_cons_zero, List.set_cons_succ, List.drop_succ_cons, List.drop_zero, List.take_succ_cons, List.take_zero, putAt, ints_set, ints_push, List.getElem_toArray, List.getElem_cons_zero, List.getElem_cons_succ])) | (refine Mine.wp_argc M.out rfl 71 _ rfl _ _ HC8.out rfl _ Tryz.underlying71 (by rfl) ?_; (try simp only [Act.put, List.setIfInBounds_toArray, List.set_cons_zero, List.set_cons_succ, List.drop_succ_cons, List.drop_zero, List.take_succ_cons, List.take_zero, putAt, ints_set, ints_push, List.getElem_toArray, List.getElem_cons_zero, List.getElem_cons_succ])) | (refine Mine.wp_argc M.out rfl 3 _ rfl _ _ HOC.out rfl _ Tryz.underlying3 (by rfl) ?_; (try simp only [Act.put, List.setIfInBounds_toArray, List.set_cons_zero, List.set_cons_succ, List.drop_succ_cons, List.drop_zero, List.take_succ_cons, List.take_zero, putAt, ints_set, ints_push, List.getElem_toArray, List.getElem_cons_zero, List.getElem_cons_succ]))) | ((with_reducible show wpList _ _ _ (⟨_, .load _ _, _, _, _, some _⟩ :: _) _ _); first | (refine Mine.wp_getg M.out (by rfl) _ _ rfl 1 _ rfl rfl _ rfl _ (by first | exact Tryz.underlying3 | exact Tryz.underlying22 | exact Tryz.underlying71 | exact Tryz.underlying79 | exact Tryz.underlying78) (by rfl) ?_; (try simp only [Act.put, List.setIfInBounds_toArray, List.set_cons_zero, List.set_cons_succ, List.drop_succ_cons, List.drop_zero, List.take_succ_cons, List.take_zero, putAt, ints_set, ints_push, List.getElem_toArray, List.getElem_cons_zero, List.getElem_cons_succ])) | (refine Mine.wp_getgc M.out (by rfl) 71 _ rfl _ _ HC8.out rfl _ Tryz.underlying71 (by rfl) ?_; (try simp only [Act.put, List.setIfInBounds_toArray, List.set_cons_zero, List.set_cons_succ, List.drop_succ_cons, List.drop_zero, List.take_succ_cons, List.take_zero, putAt, ints_set, ints_push, List.getElem_toArray, List.getElem_cons_zero, List.getElem_cons_succ]))))
      go_roundw
      case rel => exact ⟨i + 1, _, _, HLT.out, rfl, by go_num, Lib.hid (by rw [HMN.out, HNO.out]; exact M.out)⟩
      case measure => have := HLT.out; simp [intOf]; omega
    have HFT : Hid (famTo base x (i + 1) = overlayOf (famTo base x i) y.writes_) := by show _ = _; rw [famTo_yes HX.out ⟨⟨by omega, by omega⟩, by rw [HKAT.out]; exact h3⟩, HKAT.out]
    go_wp2_with (first | (go_at_call 68; (with_reducible refine (within_any _ _ _ _).mono ?_); rintro e w' ⟨rfl, rfl⟩) | (go_at_call 35; (with_reducible refine (impl_RowsOk K2 kn2 kc2 y.writes_ _ S (HWR.out.ext M.out.ext) hkn2).mono ?_); rintro e w' ⟨rfl, x9⟩; replace M := Lib.hid (M.out.on x9); clear x9; rw [h3]) | (go_at_call 77; (with_reducible refine (impl_Overlay (some ⟨g, 0, none⟩) 8 d (famTo base x i) K2 kn2 kc2 y.writes_ _ _ (M.out.row_sl 0 rfl) (by omega) S (HWR.out.ext M.out.ext) hkn2).mono ?_); rintro e w6 ⟨B6, m6, d6, rfl, o6, x6⟩; rw [← HFT.out] at o6; replace M := Lib.hid (M.out.own o6 x6); clear o6 x6) | ((with_reducible show wpList _ _ _ (⟨_, _, _, _, _, none⟩ :: _) _ _); first | (refine Mine.wp_get M.out rfl _ _ rfl 1 _ rfl rfl _ rfl _ (by first | exact Tryz.underlying3 | exact Tryz.underlying22 | exact Tryz.underlying71 | exact Tryz.underlying79 | exact Tryz.underlying78) (by rfl) ?_; (try simp only [Act.put, List.setIfInBounds_toArray, List.set_cons_zero, List.set_cons_succ, List.drop_succ_cons, List.drop_zero, List.take_succ_cons, List.take_zero, putAt, ints_set, ints_push, List.getElem_toArray, List.getElem_cons_zero, List.getElem_cons_succ])) | (refine Mine.wp_argc M.out rfl 71 _ rfl _ _ HC8.out rfl _ Tryz.underlying71 (by rfl) ?_; (try simp only [Act.put, List.setIfInBounds_toArray, List.set_cons_zero, List.set_cons_succ, List.drop_succ_cons, List.drop_zero, List.take_succ_cons, List.take_zero, putAt, ints_set, ints_push, List.getElem_toArray, List.getElem_cons_zero, List.getElem_cons_succ])) | (refine Mine.wp_argc M.out rfl 3 _ rfl _ _ HOC.out rfl _ Tryz.underlying3 (by rfl) ?_; (try simp only [Act.put, List.setIfInBounds_toArray, List.set_cons_zero, List.set_cons_succ, List.drop_succ_cons, List.drop_zero, List.take_succ_cons, List.take_zero, putAt, ints_set, ints_push, List.getElem_toArray, List.getElem_cons_zero, List.getElem_cons_succ]))) | ((with_reducible show wpList _ _ _ (⟨_, .load _ _, _, _, _, some _⟩ :: _) _ _); first | (refine Mine.wp_getg M.out (by rfl) _ _ rfl 1 _ rfl rfl _ rfl _ (by first | exact Tryz.underlying3 | exact Tryz.underlying22 | exact Tryz.underlying71 | exact Tryz.underlying79 | exact Tryz.underlying78) (by rfl) ?_; (try simp only [Act.put, List.setIfInBounds_toArray, List.set_cons_zero, List.set_cons_succ, List.drop_succ_cons, List.drop_zero, List.take_succ_cons, List.take_zero, putAt, ints_set, ints_push, List.getElem_toArray, List.getElem_cons_zero, List.getElem_cons_succ])) | (refine Mine.wp_getgc M.out (by rfl) 71 _ rfl _ _ HC8.out rfl _ Tryz.underlying71 (by rfl) ?_; (try simp only [Act.put, List.setIfInBounds_toArray, List.set_cons_zero, List.set_cons_succ, List.drop_succ_cons, List.drop_zero, List.take_succ_cons, List.take_zero, putAt, ints_set, ints_push, List.getElem_toArray, List.getElem_cons_zero, List.getElem_cons_succ]))))
    obtain rfl : m6 = 8 := by have h1 := M.out.len1 0 rfl; rw [ints_length] at h1; rw [← h1]; exact (valsOk_len (famTo_ok HV.out HR.out _))
    obtain ⟨g6, rfl⟩ := M.out.addr 0 rfl (by omega)
    go_roundw
    case rel => exact ⟨i + 1, _, _, HLT.out, rfl, by go_num, Lib.hid (by rw [HMN.out]; exact M.out.sub (List.Sublist.cons_cons _ (List.Sublist.cons _ (List.Sublist.refl _))))⟩
    case measure => have := HLT.out; simp [intOf]; omega
set_option maxRecDepth 8000 in
set_option maxHeartbeats 8000000 in
theorem spec_FamAt (AB : Option Addr) (nB cB : Nat) (base : List Int) (x : Family) (cs : List Value) (N : Int) (w : World) (SB S : Nat → Prop) (hb : Sl w SB 1 AB nB (ints base)) (hbm : nB ≤ 1048576) (h : Family.R w S cs x) (_hw : Family.wt x ≤ 1048576) :
    Calls Tryz.prog 57 #[.slice AB nB cB, .agg cs.toArray, .int .i64 N] w fun e w' => ∃ B m d, e = .returned (.slice B m d) ∧ w'.ownsRow w.heap.size 3 1 (.slice B m d) m (ints (famAt base x N)) ∧ Ext w w' := by
  have HFR := Lib.hid h
  obtain ⟨A0, n0, c0, A1, n1, c1, A2, n2, c2, A3, n3, c3, A4, n4, c4, A5, n5, c5, rfl, ⟨kh0, mh0, h0⟩, ⟨kh1, mh1, h1⟩, ⟨kh2, mh2, h2⟩, ⟨kh3, mh3, h3⟩, ⟨kh4, mh4, h4⟩, ⟨kh5, mh5, h5⟩⟩ := h
  have HB := Lib.hid hb
  have HST := Lib.hid h1
  have HOR := Lib.hid h3
  have HKI := Lib.hid h5
  have hl1 := h1.flen Row.cells_length (by omega)
  have hl3 := h3.len
  have hl5 : x.kids_.length = n5 := h5.1
  have hkl := wtl_len KidRun.wt x.kids_
  have HWT : Hid (Family.wt x ≤ 1048576) := _hw
  have hn1 : n1 ≤ 1048576 := by unfold Family.wt at _hw; omega
  have hn3 : n3 ≤ 1048576 := by unfold Family.wt at _hw; omega
  have hn5 : n5 ≤ 1048576 := by unfold Family.wt at _hw; omega
  clear hb h0 h1 h2 h3 h4 h5 hkl _hw
  have M : Hid (Mine w (w.alloc (.cells #[.int .i64 x.rv_, .int .i64 x.clock_, .int .i64 x.owner_, .bool x.lost_, .slice A0 n0 c0, .slice A1 n1 c1, .slice A2 n2 c2, .slice A3 n3 c3, .slice A4 n4 c4, .slice A5 n5 c5] 81)) [.box w.heap.size 81 #[.int .i64 x.rv_, .int .i64 x.clock_, .int .i64 x.owner_, .bool x.lost_, .slice A0 n0 c0, .slice A1 n1 c1, .slice A2 n2 c2, .slice A3 n3 c3, .slice A4 n4 c4, .slice A5 n5 c5]]) := (Mine.refl w).box 81 #[.int .i64 x.rv_, .int .i64 x.clock_, .int .i64 x.owner_, .bool x.lost_, .slice A0 n0 c0, .slice A1 n1 c1, .slice A2 n2 c2, .slice A3 n3 c3, .slice A4 n4 c4, .slice A5 n5 c5]
  show Calls Tryz.prog _ #[.slice AB nB cB, .agg #[.int .i64 x.rv_, .int .i64 x.clock_, .int .i64 x.owner_, .bool x.lost_, .slice A0 n0 c0, .slice A1 n1 c1, .slice A2 n2 c2, .slice A3 n3 c3, .slice A4 n4 c4, .slice A5 n5 c5], .int .i64 N] w _
  cases hv : valsOk base
  · have HN : Hid (famAt base x N = []) := famAt_no fun h => by rw [hv] at h; exact absurd h.1 (by simp)
    go_enter Tryz.func57, Tryz.ntmps57
    go_wp2_with (first | (go_at_call 51; (with_reducible refine (l3Vals_any _ _ _ base _ SB (HB.out.ext M.out.ext) hbm).mono ?_); rintro e w' ⟨rfl, rfl⟩; rw [hv]) | ((with_reducible show wpList _ _ _ (⟨_, _, _, _, _, none⟩ :: _) _ _); first | (refine Mine.wp_get M.out rfl _ _ rfl 0 _ rfl rfl _ rfl _ (by first | exact Tryz.underlying3 | exact Tryz.underlying22 | exact Tryz.underlying71 | exact Tryz.underlying79 | exact Tryz.underlying78) (by rfl) ?_; (try simp only [Act.put, List.setIfInBounds_toArray, List.set_cons_zero, List.set_cons_succ, List.drop_succ_cons, List.drop_zero, List.take_succ_cons, List.take_zero, putAt, ints_set, ints_push, List.getElem_toArray, List.getElem_cons_zero, List.getElem_cons_succ]))) | ((with_reducible show wpList _ _ _ (⟨_, .load _ _, _, _, _, some _⟩ :: _) _ _); first | (refine Mine.wp_getg M.out (by rfl) _ _ rfl 0 _ rfl rfl _ rfl _ (by first | exact Tryz.underlying3 | exact Tryz.underlying22 | exact Tryz.underlying71 | exact Tryz.underlying79 | exact Tryz.underlying78) (by rfl) ?_; (try simp only [Act.put, List.setIfInBounds_toArray, List.set_cons_zero, List.set_cons_succ, List.drop_succ_cons, List.drop_zero, List.take_succ_cons, List.take_zero, putAt, ints_set, ints_push, List.getElem_toArray, List.getElem_cons_zero, List.getElem_cons_succ]))))
    go_ret
    have M9 := M.out.own (own_emptySt _) ((Ext.refl' _).al _)
    try simp only [World.heap_alloc_size] at M9
    rw [HN.out]
    exact ⟨_, 0, 0, rfl, M9.row_at 0 rfl, M9.ext⟩
  cases hr : rowsOk x.start_
  · have HN : Hid (famAt base x N = []) := famAt_no fun h => by rw [hr] at h; exact absurd h.2 (by simp)
    go_enter Tryz.func57, Tryz.ntmps57
    go_wp2_with (first | (go_at_call 51; (with_reducible refine (l3Vals_any _ _ _ base _ SB (HB.out.ext M.out.ext) hbm).mono ?_); rintro e w' ⟨rfl, rfl⟩; rw [hv]) | (go_at_call 22; (with_reducible refine (spec_RowsOk A1 n1 c1 x.start_ _ S (HST.out.ext M.out.ext) hn1).mono ?_); rintro e w' ⟨rfl, x9⟩; replace M := Lib.hid (M.out.on x9); clear x9; rw [hr]) | ((with_reducible show wpList _ _ _ (⟨_, _, _, _, _, none⟩ :: _) _ _); first | (refine Mine.wp_get M.out rfl _ _ rfl 0 _ rfl rfl _ rfl _ (by first | exact Tryz.underlying3 | exact Tryz.underlying22 | exact Tryz.underlying71 | exact Tryz.underlying79 | exact Tryz.underlying78) (by rfl) ?_; (try simp only [Act.put, List.setIfInBounds_toArray, List.set_cons_zero, List.set_cons_succ, List.drop_succ_cons, List.drop_zero, List.take_succ_cons, List.take_zero, putAt, ints_set, ints_push, List.getElem_toArray, List.getElem_cons_zero, List.getElem_cons_succ]))) | ((with_reducible show wpList _ _ _ (⟨_, .load _ _, _, _, _, some _⟩ :: _) _ _); first | (refine Mine.wp_getg M.out (by rfl) _ _ rfl 0 _ rfl rfl _ rfl _ (by first | exact Tryz.underlying3 | exact Tryz.underlying22 | exact Tryz.underlying71 | exact Tryz.underlying79 | exact Tryz.underlying78) (by rfl) ?_; (try simp only [Act.put, List.setIfInBounds_toArray, List.set_cons_zero, List.set_cons_succ, List.drop_succ_cons, List.drop_zero, List.take_succ_cons, List.take_zero, putAt, ints_set, ints_push, List.getElem_toArray, List.getElem_cons_zero, List.getElem_cons_succ]))))
    go_ret
    have M9 := M.out.own (own_emptySt _) ((Ext.refl' _).al _)
    try simp only [World.heap_alloc_size] at M9
    rw [HN.out]
    exact ⟨_, 0, 0, rfl, M9.row_at 0 rfl, M9.ext⟩
  have HV := Lib.hid hv
  have HR := Lib.hid hr
  go_enter Tryz.func57, Tryz.ntmps57
  go_wp2_with (first | (go_at_call 51; (with_reducible refine (l3Vals_any _ _ _ base _ SB (HB.out.ext M.out.ext) hbm).mono ?_); rintro e w' ⟨rfl, rfl⟩; rw [hv]) | (go_at_call 22; (with_reducible refine (spec_RowsOk A1 n1 c1 x.start_ _ S (HST.out.ext M.out.ext) hn1).mono ?_); rintro e w' ⟨rfl, x9⟩; replace M := Lib.hid (M.out.on x9); clear x9; rw [hr]) | (go_at_call 56; (with_reducible refine (spec_Overlay AB nB cB base A1 n1 c1 x.start_ _ SB (HB.out.ext M.out.ext) hbm S (HST.out.ext M.out.ext) hn1).mono ?_); rintro e w5 ⟨B, m, d, rfl, o5, x5⟩; replace M := Lib.hid (M.out.own o5 x5); clear o5 x5) | ((with_reducible show wpList _ _ _ (⟨_, _, _, _, _, none⟩ :: _) _ _); first | (refine Mine.wp_get M.out rfl _ _ rfl 0 _ rfl rfl _ rfl _ (by first | exact Tryz.underlying3 | exact Tryz.underlying22 | exact Tryz.underlying71 | exact Tryz.underlying79 | exact Tryz.underlying78) (by rfl) ?_; (try simp only [Act.put, List.setIfInBounds_toArray, List.set_cons_zero, List.set_cons_succ, List.drop_succ_cons, List.drop_zero, List.take_succ_cons, List.take_zero, putAt, ints_set, ints_push, List.getElem_toArray, List.getElem_cons_zero, List.getElem_cons_succ])) | (refine Mine.wp_get M.out rfl _ _ rfl 1 _ rfl rfl _ rfl _ (by first | exact Tryz.underlying3 | exact Tryz.underlying22 | exact Tryz.underlying71 | exact Tryz.underlying79 | exact Tryz.underlying78) (by rfl) ?_; (try simp only [Act.put, List.setIfInBounds_toArray, List.set_cons_zero, List.set_cons_succ, List.drop_succ_cons, List.drop_zero, List.take_succ_cons, List.take_zero, putAt, ints_set, ints_push, List.getElem_toArray, List.getElem_cons_zero, List.getElem_cons_succ]))) | ((with_reducible show wpList _ _ _ (⟨_, .load _ _, _, _, _, some _⟩ :: _) _ _); first | (refine Mine.wp_getg M.out (by rfl) _ _ rfl 0 _ rfl rfl _ rfl _ (by first | exact Tryz.underlying3 | exact Tryz.underlying22 | exact Tryz.underlying71 | exact Tryz.underlying79 | exact Tryz.underlying78) (by rfl) ?_; (try simp only [Act.put, List.setIfInBounds_toArray, List.set_cons_zero, List.set_cons_succ, List.drop_succ_cons, List.drop_zero, List.take_succ_cons, List.take_zero, putAt, ints_set, ints_push, List.getElem_toArray, List.getElem_cons_zero, List.getElem_cons_succ]))))
  clear hv hr
  obtain rfl : m = 8 := by have h1 := M.out.len1 0 rfl; rw [ints_length] at h1; rw [← h1]; exact (valsOk_len (famTo_ok HV.out HR.out 0))
  obtain ⟨g, rfl⟩ := M.out.addr 0 rfl (by omega)
  go_loopw [7, 8] (fun u iv wr => ∃ (i d g : Nat), i ≤ n3 ∧ i ≤ N.toNat ∧ u = .slice (some ⟨g, 0, none⟩) 8 d ∧ iv = .int .i64 i ∧ Hid (Mine w wr [.row 3 1 (some ⟨g, 0, none⟩) 8 d (ints (famTo base x i)), .box w.heap.size 81 #[.int .i64 x.rv_, .int .i64 x.clock_, .int .i64 x.owner_, .bool x.lost_, .slice A0 n0 c0, .slice A1 n1 c1, .slice A2 n2 c2, .slice A3 n3 c3, .slice A4 n4 c4, .slice A5 n5 c5]])) (fun _ iv _ => n3 - (intOf iv).toNat)
  case atStart => exact ⟨0, d, g, Nat.zero_le _, Nat.zero_le _, rfl, rfl, M⟩
  case round =>
    clear M
    obtain ⟨i, d, g, hi, hiN, rfl, rfl, M⟩ := hrel
    by_cases hlt : (i : Int) < (n3 : Int)
    rotate_left
    · skip
      have HZ : Hid (famAt base x N = famTo base x i) := by show _ = _; rw [famAt_yes ⟨HV.out, HR.out⟩, hl3, (show min n3 N.toNat = i by omega)]
      go_wp2_with (first | ((with_reducible show wpList _ _ _ (⟨_, _, _, _, _, none⟩ :: _) _ _); first | (refine Mine.wp_get M.out rfl _ _ rfl 1 _ rfl rfl _ rfl _ (by first | exact Tryz.underlying3 | exact Tryz.underlying22 | exact Tryz.underlying71 | exact Tryz.underlying79 | exact Tryz.underlying78) (by rfl) ?_; (try simp only [Act.put, List.setIfInBounds_toArray, List.set_cons_zero, List.set_cons_succ, List.drop_succ_cons, List.drop_zero, List.take_succ_cons, List.take_zero, putAt, ints_set, ints_push, List.getElem_toArray, List.getElem_cons_zero, List.getElem_cons_succ]))))
      go_ret
      rw [HZ.out]
      exact ⟨_, _, _, rfl, M.out.row_at 0 rfl, M.out.ext⟩
    by_cases hlN : (i : Int) < N
    rotate_left
    · have bN : decide ((i : Int) < N) = false := decide_eq_false hlN
      have HZ : Hid (famAt base x N = famTo base x i) := by show _ = _; rw [famAt_yes ⟨HV.out, HR.out⟩, hl3, (show min n3 N.toNat = i by omega)]
      go_wp2_with (first | ((with_reducible show wpList _ _ _ (⟨_, _, _, _, _, none⟩ :: _) _ _); first | (refine Mine.wp_get M.out rfl _ _ rfl 1 _ rfl rfl _ rfl _ (by first | exact Tryz.underlying3 | exact Tryz.underlying22 | exact Tryz.underlying71 | exact Tryz.underlying79 | exact Tryz.underlying78) (by rfl) ?_; (try simp only [Act.put, List.setIfInBounds_toArray, List.set_cons_zero, List.set_cons_succ, List.drop_succ_cons, List.drop_zero, List.take_succ_cons, List.take_zero, putAt, ints_set, ints_push, List.getElem_toArray, List.getElem_cons_zero, List.getElem_cons_succ]))))
      go_ret
      rw [HZ.out]
      exact ⟨_, _, _, rfl, M.out.row_at 0 rfl, M.out.ext⟩
    have bN : decide ((i : Int) < N) = true := decide_eq_true hlN
    have HIN : Hid (i + 1 ≤ N.toNat) := by show _ ≤ _; omega
    have HLT : Hid (i < n3) := by show _ < _; omega
    obtain ⟨bo, oo, rfl⟩ := HOR.out.addr (by omega)
    obtain ⟨kk, hkk, hbo, hco⟩ := HOR.out.int_cell (k := i) HLT.out
    have HX := Lib.hid hkk
    have HOC : Hid (w.cell? ⟨bo, oo + i, none⟩ = some (.int .i64 kk) ∧ bo < w.heap.size) := ⟨hco, hbo⟩
    clear hkk hbo hco
    by_cases h0 : 0 ≤ kk
    rotate_left
    · have d0 : decide (0 ≤ kk) = false := decide_eq_false h0
      have HNO : Hid (famTo base x (i + 1) = famTo base x i) := famTo_no HX.out fun q => h0 q.1.1
      clear h0
      go_wp2_with (first | ((with_reducible show wpList _ _ _ (⟨_, _, _, _, _, none⟩ :: _) _ _); first | (refine Mine.wp_get M.out rfl _ _ rfl 1 _ rfl rfl _ rfl _ (by first | exact Tryz.underlying3 | exact Tryz.underlying22 | exact Tryz.underlying71 | exact Tryz.underlying79 | exact Tryz.underlying78) (by rfl) ?_; (try simp only [Act.put, List.setIfInBounds_toArray, List.set_cons_zero, List.set_cons_succ, List.drop_succ_cons, List.drop_zero, List.take_succ_cons, List.take_zero, putAt, ints_set, ints_push, List.getElem_toArray, List.getElem_cons_zero, List.getElem_cons_succ])) | (refine Mine.wp_argc M.out rfl 3 _ rfl _ _ HOC.out rfl _ Tryz.underlying3 (by rfl) ?_; (try simp only [Act.put, List.setIfInBounds_toArray, List.set_cons_zero, List.set_cons_succ, List.drop_succ_cons, List.drop_zero, List.take_succ_cons, List.take_zero, putAt, ints_set, ints_push, List.getElem_toArray, List.getElem_cons_zero, List.getElem_cons_succ]))) | ((with_reducible show wpList _ _ _ (⟨_, .load _ _, _, _, _, some _⟩ :: _) _ _); first | (refine Mine.wp_getg M.out (by rfl) _ _ rfl 1 _ rfl rfl _ rfl _ (by first | exact Tryz.underlying3 | exact Tryz.underlying22 | exact Tryz.underlying71 | exact Tryz.underlying79 | exact Tryz.underlying78) (by rfl) ?_; (try simp only [Act.put, List.setIfInBounds_toArray, List.set_cons_zero, List.set_cons_succ, List.drop_succ_cons, List.drop_zero, List.take_succ_cons, List.take_zero, putAt, ints_set, ints_push, List.getElem_toArray, List.getElem_cons_zero, List.getElem_cons_succ]))))
      go_roundw
      case rel => exact ⟨i + 1, _, _, HLT.out, HIN.out, rfl, by go_num, Lib.hid (by rw [HNO.out]; exact M.out)⟩
      case measure => have := HLT.out; simp [intOf]; omega
    have d0 : decide (0 ≤ kk) = true := decide_eq_true h0
    by_cases h1 : kk < (n5 : Int)
    rotate_left
    · have d1 : decide (kk < (n5 : Int)) = false := decide_eq_false h1
      have HNO : Hid (famTo base x (i + 1) = famTo base x i) := famTo_no HX.out fun q => h1 (by have := q.1.2; omega)
      clear h1
      go_wp2_with (first | ((with_reducible show wpList _ _ _ (⟨_, _, _, _, _, none⟩ :: _) _ _); first | (refine Mine.wp_get M.out rfl _ _ rfl 1 _ rfl rfl _ rfl _ (by first | exact Tryz.underlying3 | exact Tryz.underlying22 | exact Tryz.underlying71 | exact Tryz.underlying79 | exact Tryz.underlying78) (by rfl) ?_; (try simp only [Act.put, List.setIfInBounds_toArray, List.set_cons_zero, List.set_cons_succ, List.drop_succ_cons, List.drop_zero, List.take_succ_cons, List.take_zero, putAt, ints_set, ints_push, List.getElem_toArray, List.getElem_cons_zero, List.getElem_cons_succ])) | (refine Mine.wp_argc M.out rfl 3 _ rfl _ _ HOC.out rfl _ Tryz.underlying3 (by rfl) ?_; (try simp only [Act.put, List.setIfInBounds_toArray, List.set_cons_zero, List.set_cons_succ, List.drop_succ_cons, List.drop_zero, List.take_succ_cons, List.take_zero, putAt, ints_set, ints_push, List.getElem_toArray, List.getElem_cons_zero, List.getElem_cons_succ]))) | ((with_reducible show wpList _ _ _ (⟨_, .load _ _, _, _, _, some _⟩ :: _) _ _); first | (refine Mine.wp_getg M.out (by rfl) _ _ rfl 1 _ rfl rfl _ rfl _ (by first | exact Tryz.underlying3 | exact Tryz.underlying22 | exact Tryz.underlying71 | exact Tryz.underlying79 | exact Tryz.underlying78) (by rfl) ?_; (try simp only [Act.put, List.setIfInBounds_toArray, List.set_cons_zero, List.set_cons_succ, List.drop_succ_cons, List.drop_zero, List.take_succ_cons, List.take_zero, putAt, ints_set, ints_push, List.getElem_toArray, List.getElem_cons_zero, List.getElem_cons_succ]))))
      go_roundw
      case rel => exact ⟨i + 1, _, _, HLT.out, HIN.out, rfl, by go_num, Lib.hid (by rw [HNO.out]; exact M.out)⟩
      case measure => have := HLT.out; simp [intOf]; omega
    have d1 : decide (kk < (n5 : Int)) = true := decide_eq_true h1
    obtain ⟨j, rfl⟩ : ∃ j : Nat, kk = (j : Int) := ⟨kk.toNat, by omega⟩
    have hj : j < n5 := by omega
    have hj1 : (j : Int) < (n5 : Int) := by omega
    have HJ := Lib.hid hj
    obtain ⟨bk, ok, rfl⟩ := HKI.out.addr (by omega)
    obtain ⟨y, row, hky, hkb, hq, hkc⟩ := HKI.out.at_ HJ.out
    have HRW := Lib.hid hq
    have HRG := Lib.hid (SlR.range KidRun.R_good hq hkc)
    have hlr := KidRun.R_good.len hq
    have HKY := Lib.hid hky
    have hyw : KidRun.wt y ≤ 1048576 := by have h1 := wtl_at KidRun.wt hky; have h2 := HWT.out; unfold Family.wt at h2; omega
    obtain ⟨K0, kn0, kc0, K1, kn1, kc1, K2, kn2, kc2, K3, kn3, kc3, rfl, ⟨khq0, mhq0, hq0⟩, ⟨khq1, mhq1, hq1⟩, ⟨khq2, mhq2, hq2⟩, ⟨khq3, mhq3, hq3⟩⟩ := hq
    have HWR : Hid (Sl w S 2 K2 kn2 (y.writes_.flatMap Row.cells)) := hq2
    have HSN : Hid (Sl w S 3 K1 kn1 (y.seen_.flatMap Entry.cells)) := hq1
    have hkn2 : kn2 ≤ 1048576 := by have h1 := hq2.flen Row.cells_length (by omega); unfold KidRun.wt at hyw; omega
    have hsl : y.seen_.length = kn1 := hq1.flen Entry.cells_length (by omega)
    have hkn1 : kn1 ≤ 1048576 := by unfold KidRun.wt at hyw; omega
    have HC2 : Hid (w.cell? ⟨bk, ok + j * 15 + 2, none⟩ = some (.int .i64 y.since_) ∧ bk < w.heap.size) := ⟨hkc 2 (by omega), hkb⟩
    have HC7 : Hid (w.cell? ⟨bk, ok + j * 15 + 7, none⟩ = some (.slice K1 kn1 kc1) ∧ bk < w.heap.size) := ⟨hkc 7 (by omega), hkb⟩
    have HC8 : Hid (w.cell? ⟨bk, ok + j * 15 + 8, none⟩ = some (.slice K2 kn2 kc2) ∧ bk < w.heap.size) := ⟨hkc 8 (by omega), hkb⟩
    have HKB := Lib.hid hkb
    have HKAT : Hid (kidAt x (j : Int) = y) := by show _ = _; unfold kidAt; rw [Int.toNat_natCast, List.getD_eq_getElem?_getD, HKY.out]; rfl
    clear hky hkb hkc hlr hyw hq0 hq1 hq2 hq3
    cases h3 : rowsOk y.writes_
    · have HNO : Hid (famTo base x (i + 1) = famTo base x i) := famTo_no HX.out fun q => by have h := q.2; rw [HKAT.out, h3] at h; exact absurd h (by simp)
      go_wp2_with (first | (go_at_call 68; (with_reducible refine (within_any _ _ _ _).mono ?_); rintro e w' ⟨rfl, rfl⟩) | (go_at_call 22; (with_reducible refine (spec_RowsOk K2 kn2 kc2 y.writes_ _ S (HWR.out.ext M.out.ext) hkn2).mono ?_); rintro e w' ⟨rfl, x9⟩; replace M := Lib.hid (M.out.on x9); clear x9; rw [h3]) | ((with_reducible show wpList _ _ _ (⟨_, _, _, _, _, none⟩ :: _) _ _); first | (refine Mine.wp_get M.out rfl _ _ rfl 1 _ rfl rfl _ rfl _ (by first | exact Tryz.underlying3 | exact Tryz.underlying22 | exact Tryz.underlying71 | exact Tryz.underlying79 | exact Tryz.underlying78) (by rfl) ?_; (try simp only [Act.put, List.setIfInBounds_toArray, List.set_cons_zero, List.set_cons_succ, List.drop_succ_cons, List.drop_zero, List.take_succ_cons, List.take_zero, putAt, ints_set, ints_push, List.getElem_toArray, List.getElem_cons_zero, List.getElem_cons_succ])) | (refine Mine.wp_argc M.out rfl 71 _ rfl _ _ HC8.out rfl _ Tryz.underlying71 (by rfl) ?_; (try simp only [Act.put, List.setIfInBounds_toArray, List.set_cons_zero, List.set_cons_succ, List.drop_succ_cons, List.drop_zero, List.take_succ_cons, List.take_zero, putAt, ints_set, ints_push, List.getElem_toArray, List.getElem_cons_zero, List.getElem_cons_succ])) | (refine Mine.wp_argc M.out rfl 3 _ rfl _ _ HOC.out rfl _ Tryz.underlying3 (by rfl) ?_; (try simp only [Act.put, List.setIfInBounds_toArray, List.set_cons_zero, List.set_cons_succ, List.drop_succ_cons, List.drop_zero, List.take_succ_cons, List.take_zero, putAt, ints_set, ints_push, List.getElem_toArray, List.getElem_cons_zero, List.getElem_cons_succ]))) | ((with_reducible show wpList _ _ _ (⟨_, .load _ _, _, _, _, some _⟩ :: _) _ _); first | (refine Mine.wp_getg M.out (by rfl) _ _ rfl 1 _ rfl rfl _ rfl _ (by first | exact Tryz.underlying3 | exact Tryz.underlying22 | exact Tryz.underlying71 | exact Tryz.underlying79 | exact Tryz.underlying78) (by rfl) ?_; (try simp only [Act.put, List.setIfInBounds_toArray, List.set_cons_zero, List.set_cons_succ, List.drop_succ_cons, List.drop_zero, List.take_succ_cons, List.take_zero, putAt, ints_set, ints_push, List.getElem_toArray, List.getElem_cons_zero, List.getElem_cons_succ])) | (refine Mine.wp_getgc M.out (by rfl) 71 _ rfl _ _ HC8.out rfl _ Tryz.underlying71 (by rfl) ?_; (try simp only [Act.put, List.setIfInBounds_toArray, List.set_cons_zero, List.set_cons_succ, List.drop_succ_cons, List.drop_zero, List.take_succ_cons, List.take_zero, putAt, ints_set, ints_push, List.getElem_toArray, List.getElem_cons_zero, List.getElem_cons_succ]))))
      go_roundw
      case rel => exact ⟨i + 1, _, _, HLT.out, HIN.out, rfl, by go_num, Lib.hid (by rw [HNO.out]; exact M.out)⟩
      case measure => have := HLT.out; simp [intOf]; omega
    have HFT : Hid (famTo base x (i + 1) = overlayOf (famTo base x i) y.writes_) := by show _ = _; rw [famTo_yes HX.out ⟨⟨by omega, by omega⟩, by rw [HKAT.out]; exact h3⟩, HKAT.out]
    go_wp2_with (first | (go_at_call 68; (with_reducible refine (within_any _ _ _ _).mono ?_); rintro e w' ⟨rfl, rfl⟩) | (go_at_call 22; (with_reducible refine (spec_RowsOk K2 kn2 kc2 y.writes_ _ S (HWR.out.ext M.out.ext) hkn2).mono ?_); rintro e w' ⟨rfl, x9⟩; replace M := Lib.hid (M.out.on x9); clear x9; rw [h3]) | (go_at_call 56; (with_reducible refine (spec_Overlay (some ⟨g, 0, none⟩) 8 d (famTo base x i) K2 kn2 kc2 y.writes_ _ _ (M.out.row_sl 0 rfl) (by omega) S (HWR.out.ext M.out.ext) hkn2).mono ?_); rintro e w6 ⟨B6, m6, d6, rfl, o6, x6⟩; rw [← HFT.out] at o6; replace M := Lib.hid (M.out.own o6 x6); clear o6 x6) | ((with_reducible show wpList _ _ _ (⟨_, _, _, _, _, none⟩ :: _) _ _); first | (refine Mine.wp_get M.out rfl _ _ rfl 1 _ rfl rfl _ rfl _ (by first | exact Tryz.underlying3 | exact Tryz.underlying22 | exact Tryz.underlying71 | exact Tryz.underlying79 | exact Tryz.underlying78) (by rfl) ?_; (try simp only [Act.put, List.setIfInBounds_toArray, List.set_cons_zero, List.set_cons_succ, List.drop_succ_cons, List.drop_zero, List.take_succ_cons, List.take_zero, putAt, ints_set, ints_push, List.getElem_toArray, List.getElem_cons_zero, List.getElem_cons_succ])) | (refine Mine.wp_argc M.out rfl 71 _ rfl _ _ HC8.out rfl _ Tryz.underlying71 (by rfl) ?_; (try simp only [Act.put, List.setIfInBounds_toArray, List.set_cons_zero, List.set_cons_succ, List.drop_succ_cons, List.drop_zero, List.take_succ_cons, List.take_zero, putAt, ints_set, ints_push, List.getElem_toArray, List.getElem_cons_zero, List.getElem_cons_succ])) | (refine Mine.wp_argc M.out rfl 3 _ rfl _ _ HOC.out rfl _ Tryz.underlying3 (by rfl) ?_; (try simp only [Act.put, List.setIfInBounds_toArray, List.set_cons_zero, List.set_cons_succ, List.drop_succ_cons, List.drop_zero, List.take_succ_cons, List.take_zero, putAt, ints_set, ints_push, List.getElem_toArray, List.getElem_cons_zero, List.getElem_cons_succ]))) | ((with_reducible show wpList _ _ _ (⟨_, .load _ _, _, _, _, some _⟩ :: _) _ _); first | (refine Mine.wp_getg M.out (by rfl) _ _ rfl 1 _ rfl rfl _ rfl _ (by first | exact Tryz.underlying3 | exact Tryz.underlying22 | exact Tryz.underlying71 | exact Tryz.underlying79 | exact Tryz.underlying78) (by rfl) ?_; (try simp only [Act.put, List.setIfInBounds_toArray, List.set_cons_zero, List.set_cons_succ, List.drop_succ_cons, List.drop_zero, List.take_succ_cons, List.take_zero, putAt, ints_set, ints_push, List.getElem_toArray, List.getElem_cons_zero, List.getElem_cons_succ])) | (refine Mine.wp_getgc M.out (by rfl) 71 _ rfl _ _ HC8.out rfl _ Tryz.underlying71 (by rfl) ?_; (try simp only [Act.put, List.setIfInBounds_toArray, List.set_cons_zero, List.set_cons_succ, List.drop_succ_cons, List.drop_zero, List.take_succ_cons, List.take_zero, putAt, ints_set, ints_push, List.getElem_toArray, List.getElem_cons_zero, List.getElem_cons_succ]))))
    obtain rfl : m6 = 8 := by have h1 := M.out.len1 0 rfl; rw [ints_length] at h1; rw [← h1]; exact (valsOk_len (famTo_ok HV.out HR.out _))
    obtain ⟨g6, rfl⟩ := M.out.addr 0 rfl (by omega)
    go_roundw
    case rel => exact ⟨i + 1, _, _, HLT.out, HIN.out, rfl, by go_num, Lib.hid (by  exact M.out.sub (List.Sublist.cons_cons _ (List.Sublist.cons _ (List.Sublist.refl _))))⟩
    case measure => have := HLT.out; simp [intOf]; omega

end Go.Proofs.YtglplgbhhnmgbaaGreat
