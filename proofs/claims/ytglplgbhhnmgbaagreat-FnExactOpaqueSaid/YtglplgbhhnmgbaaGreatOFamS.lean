/- FamTrue of the reference. No condition but sizes. -/
import Derived.Test.YtglplgbhhnmgbaaGreatOFam
namespace Go.Proofs.YtglplgbhhnmgbaaGreat
open Go.RowKit Go.Deep
set_option linter.unusedSimpArgs false
set_option linter.unusedVariables false
set_option maxRecDepth 8000 in
set_option maxHeartbeats 8000000 in
theorem spec_FamTrue (AB : Option Addr) (nB cB : Nat) (base : List Int) (x : Family) (cs : List Value) (w : World) (SB S : Nat → Prop) (hb : Sl w SB 1 AB nB (ints base)) (hbm : nB ≤ 1048576) (h : Family.R w S cs x) (_hw : Family.wt x ≤ 1048576) :
    Calls Tryz.prog 24 #[.slice AB nB cB, .agg cs.toArray] w fun e w' => e = .returned (.bool (famTrue base x)) ∧ Ext w w' := by
  have HFR := Lib.hid h
  obtain ⟨A0, n0, c0, A1, n1, c1, A2, n2, c2, A3, n3, c3, A4, n4, c4, A5, n5, c5, rfl, ⟨kh0, mh0, h0⟩, ⟨kh1, mh1, h1⟩, ⟨kh2, mh2, h2⟩, ⟨kh3, mh3, h3⟩, ⟨kh4, mh4, h4⟩, ⟨kh5, mh5, h5⟩⟩ := h
  have HB := Lib.hid hb
  have HST := Lib.hid h1
  have HOR := Lib.hid h3
  have HKI := Lib.hid h5
  have hl1 := h1.flen Row.cells_length (by omega)
  have hl3 := h3.len
  have hl5 : x.kids_.length = n5 := h5.1
  have hkl := wtl_len KidRun.wt x.kids_
  have HWT : Hid (Family.wt x ≤ 1048576) := _hw
  have hn1 : n1 ≤ 1048576 := by unfold Family.wt at _hw; omega
  have hn3 : n3 ≤ 1048576 := by unfold Family.wt at _hw; omega
  have hn5 : n5 ≤ 1048576 := by unfold Family.wt at _hw; omega
  clear hb h0 h1 h2 h3 h4 h5 hkl _hw
  have M : Hid (Mine w (w.alloc (.cells #[.int .i64 x.rv_, .int .i64 x.clock_, .int .i64 x.owner_, .bool x.lost_, .slice A0 n0 c0, .slice A1 n1 c1, .slice A2 n2 c2, .slice A3 n3 c3, .slice A4 n4 c4, .slice A5 n5 c5] 81)) [.box w.heap.size 81 #[.int .i64 x.rv_, .int .i64 x.clock_, .int .i64 x.owner_, .bool x.lost_, .slice A0 n0 c0, .slice A1 n1 c1, .slice A2 n2 c2, .slice A3 n3 c3, .slice A4 n4 c4, .slice A5 n5 c5]]) := (Mine.refl w).box 81 #[.int .i64 x.rv_, .int .i64 x.clock_, .int .i64 x.owner_, .bool x.lost_, .slice A0 n0 c0, .slice A1 n1 c1, .slice A2 n2 c2, .slice A3 n3 c3, .slice A4 n4 c4, .slice A5 n5 c5]
  show Calls Tryz.prog _ #[.slice AB nB cB, .agg #[.int .i64 x.rv_, .int .i64 x.clock_, .int .i64 x.owner_, .bool x.lost_, .slice A0 n0 c0, .slice A1 n1 c1, .slice A2 n2 c2, .slice A3 n3 c3, .slice A4 n4 c4, .slice A5 n5 c5]] w _
  cases hv : valsOk base
  · have HZ : Hid (famTrue base x = false) := dec_no fun z => by rw [hv] at z; exact absurd z.1.1 (by simp)
    go_enter Tryz.func24, Tryz.ntmps24
    go_wp2_with (first | (go_at_call 51; (with_reducible refine (l3Vals_any _ _ _ base _ SB (HB.out.ext M.out.ext) hbm).mono ?_); rintro e w' ⟨rfl, rfl⟩; rw [hv]) | ((with_reducible show wpList _ _ _ (⟨_, _, _, _, _, none⟩ :: _) _ _); first | (refine Mine.wp_get M.out rfl _ _ rfl 0 _ rfl rfl _ rfl _ (by first | exact Tryz.underlying3 | exact Tryz.underlying22 | exact Tryz.underlying71 | exact Tryz.underlying79 | exact Tryz.underlying78) (by rfl) ?_; (try simp only [Act.put, List.setIfInBounds_toArray, List.set_cons_zero, List.set_cons_succ, List.drop_succ_cons, List.drop_zero, List.take_succ_cons, List.take_zero, putAt, ints_set, ints_push, List.getElem_toArray, List.getElem_cons_zero, List.getElem_cons_succ]))) | ((with_reducible show wpList _ _ _ (⟨_, .load _ _, _, _, _, some _⟩ :: _) _ _); first | (refine Mine.wp_getg M.out (by rfl) _ _ rfl 0 _ rfl rfl _ rfl _ (by first | exact Tryz.underlying3 | exact Tryz.underlying22 | exact Tryz.underlying71 | exact Tryz.underlying79 | exact Tryz.underlying78) (by rfl) ?_; (try simp only [Act.put, List.setIfInBounds_toArray, List.set_cons_zero, List.set_cons_succ, List.drop_succ_cons, List.drop_zero, List.take_succ_cons, List.take_zero, putAt, ints_set, ints_push, List.getElem_toArray, List.getElem_cons_zero, List.getElem_cons_succ]))))
    go_ret
    exact ⟨by rw [HZ.out]; first | done | rfl, M.out.ext⟩
  cases hr : rowsOk x.start_
  · have HZ : Hid (famTrue base x = false) := dec_no fun z => by rw [hr] at z; exact absurd z.1.2 (by simp)
    go_enter Tryz.func24, Tryz.ntmps24
    go_wp2_with (first | (go_at_call 51; (with_reducible refine (l3Vals_any _ _ _ base _ SB (HB.out.ext M.out.ext) hbm).mono ?_); rintro e w' ⟨rfl, rfl⟩; rw [hv]) | (go_at_call 22; (with_reducible refine (spec_RowsOk A1 n1 c1 x.start_ _ S (HST.out.ext M.out.ext) hn1).mono ?_); rintro e w' ⟨rfl, x9⟩; replace M := Lib.hid (M.out.on x9); clear x9; rw [hr]) | ((with_reducible show wpList _ _ _ (⟨_, _, _, _, _, none⟩ :: _) _ _); first | (refine Mine.wp_get M.out rfl _ _ rfl 0 _ rfl rfl _ rfl _ (by first | exact Tryz.underlying3 | exact Tryz.underlying22 | exact Tryz.underlying71 | exact Tryz.underlying79 | exact Tryz.underlying78) (by rfl) ?_; (try simp only [Act.put, List.setIfInBounds_toArray, List.set_cons_zero, List.set_cons_succ, List.drop_succ_cons, List.drop_zero, List.take_succ_cons, List.take_zero, putAt, ints_set, ints_push, List.getElem_toArray, List.getElem_cons_zero, List.getElem_cons_succ]))) | ((with_reducible show wpList _ _ _ (⟨_, .load _ _, _, _, _, some _⟩ :: _) _ _); first | (refine Mine.wp_getg M.out (by rfl) _ _ rfl 0 _ rfl rfl _ rfl _ (by first | exact Tryz.underlying3 | exact Tryz.underlying22 | exact Tryz.underlying71 | exact Tryz.underlying79 | exact Tryz.underlying78) (by rfl) ?_; (try simp only [Act.put, List.setIfInBounds_toArray, List.set_cons_zero, List.set_cons_succ, List.drop_succ_cons, List.drop_zero, List.take_succ_cons, List.take_zero, putAt, ints_set, ints_push, List.getElem_toArray, List.getElem_cons_zero, List.getElem_cons_succ]))))
    go_ret
    exact ⟨by rw [HZ.out]; first | done | rfl, M.out.ext⟩
  have HOK : Hid (valsOk base = true ∧ rowsOk x.start_ = true) := ⟨hv, hr⟩
  go_enter Tryz.func24, Tryz.ntmps24
  go_wp2_with (first | (go_at_call 51; (with_reducible refine (l3Vals_any _ _ _ base _ SB (HB.out.ext M.out.ext) hbm).mono ?_); rintro e w' ⟨rfl, rfl⟩; rw [hv]) | (go_at_call 22; (with_reducible refine (spec_RowsOk A1 n1 c1 x.start_ _ S (HST.out.ext M.out.ext) hn1).mono ?_); rintro e w' ⟨rfl, x9⟩; replace M := Lib.hid (M.out.on x9); clear x9; rw [hr]) | ((with_reducible show wpList _ _ _ (⟨_, _, _, _, _, none⟩ :: _) _ _); first | (refine Mine.wp_get M.out rfl _ _ rfl 0 _ rfl rfl _ rfl _ (by first | exact Tryz.underlying3 | exact Tryz.underlying22 | exact Tryz.underlying71 | exact Tryz.underlying79 | exact Tryz.underlying78) (by rfl) ?_; (try simp only [Act.put, List.setIfInBounds_toArray, List.set_cons_zero, List.set_cons_succ, List.drop_succ_cons, List.drop_zero, List.take_succ_cons, List.take_zero, putAt, ints_set, ints_push, List.getElem_toArray, List.getElem_cons_zero, List.getElem_cons_succ]))) | ((with_reducible show wpList _ _ _ (⟨_, .load _ _, _, _, _, some _⟩ :: _) _ _); first | (refine Mine.wp_getg M.out (by rfl) _ _ rfl 0 _ rfl rfl _ rfl _ (by first | exact Tryz.underlying3 | exact Tryz.underlying22 | exact Tryz.underlying71 | exact Tryz.underlying79 | exact Tryz.underlying78) (by rfl) ?_; (try simp only [Act.put, List.setIfInBounds_toArray, List.set_cons_zero, List.set_cons_succ, List.drop_succ_cons, List.drop_zero, List.take_succ_cons, List.take_zero, putAt, ints_set, ints_push, List.getElem_toArray, List.getElem_cons_zero, List.getElem_cons_succ]))))
  clear hv hr
  go_loopw [5] (fun iv wr => ∃ i : Nat, i ≤ n5 ∧ iv = .int .i64 i ∧ Hid (AllTo (kidTrue base x) x.kids_ i) ∧ Hid (Mine w wr [.box w.heap.size 81 #[.int .i64 x.rv_, .int .i64 x.clock_, .int .i64 x.owner_, .bool x.lost_, .slice A0 n0 c0, .slice A1 n1 c1, .slice A2 n2 c2, .slice A3 n3 c3, .slice A4 n4 c4, .slice A5 n5 c5]])) (fun iv _ => n5 - (intOf iv).toNat)
  case atStart => exact ⟨0, Nat.zero_le _, rfl, AllTo.zero _ _, M⟩
  case round =>
    clear M
    obtain ⟨i, hi, rfl, HU, M⟩ := hrel
    by_cases hlt : (i : Int) < (n5 : Int)
    rotate_left
    · have HZ : Hid (famTrue base x = true) := dec_yes ⟨HOK.out, by rw [hl5, ← (show i = n5 by omega)]; exact HU.out⟩
      go_wp2_with (first | ((with_reducible show wpList _ _ _ (⟨_, _, _, _, _, none⟩ :: _) _ _); first | (refine Mine.wp_get M.out rfl _ _ rfl 0 _ rfl rfl _ rfl _ (by first | exact Tryz.underlying3 | exact Tryz.underlying22 | exact Tryz.underlying71 | exact Tryz.underlying79 | exact Tryz.underlying78) (by rfl) ?_; (try simp only [Act.put, List.setIfInBounds_toArray, List.set_cons_zero, List.set_cons_succ, List.drop_succ_cons, List.drop_zero, List.take_succ_cons, List.take_zero, putAt, ints_set, ints_push, List.getElem_toArray, List.getElem_cons_zero, List.getElem_cons_succ]))))
      go_ret
      exact ⟨by rw [HZ.out]; first | done | rfl, M.out.ext⟩
    have HLT : Hid (i < n5) := by show _ < _; omega
    obtain ⟨bk, ok, rfl⟩ := HKI.out.addr (by omega)
    obtain ⟨y, row, hky, hkb, hq, hkc⟩ := HKI.out.at_ HLT.out
    have HRW := Lib.hid hq
    have HRG := Lib.hid (SlR.range KidRun.R_good hq hkc)
    have hlr := KidRun.R_good.len hq
    have HKY := Lib.hid hky
    have hyw : KidRun.wt y ≤ 1048576 := by have h1 := wtl_at KidRun.wt hky; have h2 := HWT.out; unfold Family.wt at h2; omega
    obtain ⟨K0, kn0, kc0, K1, kn1, kc1, K2, kn2, kc2, K3, kn3, kc3, rfl, ⟨khq0, mhq0, hq0⟩, ⟨khq1, mhq1, hq1⟩, ⟨khq2, mhq2, hq2⟩, ⟨khq3, mhq3, hq3⟩⟩ := hq
    have HWR : Hid (Sl w S 2 K2 kn2 (y.writes_.flatMap Row.cells)) := hq2
    have HSN : Hid (Sl w S 3 K1 kn1 (y.seen_.flatMap Entry.cells)) := hq1
    have hkn2 : kn2 ≤ 1048576 := by have h1 := hq2.flen Row.cells_length (by omega); unfold KidRun.wt at hyw; omega
    have hsl : y.seen_.length = kn1 := hq1.flen Entry.cells_length (by omega)
    have hkn1 : kn1 ≤ 1048576 := by unfold KidRun.wt at hyw; omega
    have HC2 : Hid (w.cell? ⟨bk, ok + i * 15 + 2, none⟩ = some (.int .i64 y.since_) ∧ bk < w.heap.size) := ⟨hkc 2 (by omega), hkb⟩
    have HC7 : Hid (w.cell? ⟨bk, ok + i * 15 + 7, none⟩ = some (.slice K1 kn1 kc1) ∧ bk < w.heap.size) := ⟨hkc 7 (by omega), hkb⟩
    have HC8 : Hid (w.cell? ⟨bk, ok + i * 15 + 8, none⟩ = some (.slice K2 kn2 kc2) ∧ bk < w.heap.size) := ⟨hkc 8 (by omega), hkb⟩
    have HKB := Lib.hid hkb
    have HKAT : Hid (kidAt x (i : Int) = y) := by show _ = _; unfold kidAt; rw [Int.toNat_natCast, List.getD_eq_getElem?_getD, HKY.out]; rfl
    clear hky hkb hkc hlr hyw hq0 hq1 hq2 hq3
    have HSV := Lib.hid (famAt_vals (n := y.since_) HOK.out)
    go_wp2_with (first | ((with_reducible show wpList _ _ _ (⟨_, _, _, _, _, none⟩ :: _) _ _); first | (refine Mine.wp_get M.out rfl _ _ rfl 0 _ rfl rfl _ rfl _ (by first | exact Tryz.underlying3 | exact Tryz.underlying22 | exact Tryz.underlying71 | exact Tryz.underlying79 | exact Tryz.underlying78) (by rfl) ?_; (try simp only [Act.put, List.setIfInBounds_toArray, List.set_cons_zero, List.set_cons_succ, List.drop_succ_cons, List.drop_zero, List.take_succ_cons, List.take_zero, putAt, ints_set, ints_push, List.getElem_toArray, List.getElem_cons_zero, List.getElem_cons_succ]))))
    refine Mine.region_tail M.out 8 (by kernel_rfl) (by kernel_rfl) ?_
    simp only [List.take_succ_cons, List.take_zero, List.drop_succ_cons, List.drop_zero]
    repeat (first | go_big_quiet_skip | (go_big_quiet_want; first | (refine Mine.oq_getall 81 _ rfl 0 rfl rfl _ Tryz.underlying81 (by rfl) (by kernel_rfl) ?_; (try simp only [Act.put, List.setIfInBounds_toArray, List.set_cons_zero, List.set_cons_succ, List.drop_succ_cons, List.drop_zero, List.take_succ_cons, List.take_zero, putAt, ints_set, ints_push, List.getElem_toArray, List.getElem_cons_zero, List.getElem_cons_succ]); go_big_quiet_on) | (refine Mine.oq_get _ _ rfl 0 _ rfl rfl _ rfl _ (by first | exact Tryz.underlying3 | exact Tryz.underlying22 | exact Tryz.underlying71 | exact Tryz.underlying79 | exact Tryz.underlying78) (by rfl) ?_; (try simp only [Act.put, List.setIfInBounds_toArray, List.set_cons_zero, List.set_cons_succ, List.drop_succ_cons, List.drop_zero, List.take_succ_cons, List.take_zero, putAt, ints_set, ints_push, List.getElem_toArray, List.getElem_cons_zero, List.getElem_cons_succ]); go_big_quiet_on) | (refine Mine.oq_arg 3 _ rfl _ _ HC2.out rfl _ Tryz.underlying3 (by rfl) ?_; (try simp only [Act.put, List.setIfInBounds_toArray, List.set_cons_zero, List.set_cons_succ, List.drop_succ_cons, List.drop_zero, List.take_succ_cons, List.take_zero, putAt, ints_set, ints_push, List.getElem_toArray, List.getElem_cons_zero, List.getElem_cons_succ]); go_big_quiet_on) | (unfold Oper.quiet; apply Exists.intro; refine ⟨fun wq hq => ?_, ?_⟩; (clear hq; go_simp; first | done | rfl | exact ⟨rfl, rfl⟩); (try simp only [Act.put, List.setIfInBounds_toArray, List.set_cons_succ, List.set_cons_zero]); go_big_quiet_on)))
    refine wpQuiet_nil ?_
    intro w' M'
    replace M := Lib.hid M'
    clear M'
    go_wp2_with (first | (go_at_call 57; (with_reducible refine (spec_FamAt AB nB cB base x _ y.since_ _ SB S (HB.out.ext M.out.ext) hbm (Family.R_good.ext HFR.out M.out.ext) HWT.out).mono ?_); rintro e w5 ⟨B, m, d, rfl, o5, x5⟩; replace M := Lib.hid (M.out.own o5 x5); clear o5 x5; obtain rfl : m = 8 := (by have h1 := M.out.len1 0 rfl; rw [ints_length] at h1; rw [← h1]; exact valsOk_len HSV.out); obtain ⟨g, rfl⟩ := M.out.addr 0 rfl (by omega)) | ((with_reducible show wpList _ _ _ (⟨_, _, _, _, _, none⟩ :: _) _ _); first | (refine Mine.wp_get M.out rfl _ _ rfl 1 _ rfl rfl _ rfl _ (by first | exact Tryz.underlying3 | exact Tryz.underlying22 | exact Tryz.underlying71 | exact Tryz.underlying79 | exact Tryz.underlying78) (by rfl) ?_; (try simp only [Act.put, List.setIfInBounds_toArray, List.set_cons_zero, List.set_cons_succ, List.drop_succ_cons, List.drop_zero, List.take_succ_cons, List.take_zero, putAt, ints_set, ints_push, List.getElem_toArray, List.getElem_cons_zero, List.getElem_cons_succ]))))
    go_loopw [7] (fun qv wr => ∃ q : Nat, q ≤ kn1 ∧ qv = .int .i64 q ∧ Hid (AllTo (seenOk (famAt base x y.since_)) y.seen_ q) ∧ Hid (Mine w wr [.row 3 1 (some ⟨g, 0, none⟩) 8 d (ints (famAt base x y.since_)), .box w.heap.size 81 #[.int .i64 x.rv_, .int .i64 x.clock_, .int .i64 x.owner_, .bool x.lost_, .slice A0 n0 c0, .slice A1 n1 c1, .slice A2 n2 c2, .slice A3 n3 c3, .slice A4 n4 c4, .slice (some ⟨bk, ok, none⟩) n5 c5]])) (fun qv _ => kn1 - (intOf qv).toNat)
    case atStart => exact ⟨0, Nat.zero_le _, rfl, AllTo.zero _ _, M⟩
    case round =>
      clear M
      obtain ⟨q, hq, rfl, HV, M⟩ := hrel
      by_cases hql : (q : Int) < (kn1 : Int)
      rotate_left
      · have HKT : Hid (kidTrue base x i y) := by show AllTo _ _ _; rw [hsl, ← (show q = kn1 by omega)]; exact HV.out
        go_wp2_with (first | ((with_reducible show wpList _ _ _ (⟨_, _, _, _, _, none⟩ :: _) _ _); first | (refine Mine.wp_get M.out rfl _ _ rfl 1 _ rfl rfl _ rfl _ (by first | exact Tryz.underlying3 | exact Tryz.underlying22 | exact Tryz.underlying71 | exact Tryz.underlying79 | exact Tryz.underlying78) (by rfl) ?_; (try simp only [Act.put, List.setIfInBounds_toArray, List.set_cons_zero, List.set_cons_succ, List.drop_succ_cons, List.drop_zero, List.take_succ_cons, List.take_zero, putAt, ints_set, ints_push, List.getElem_toArray, List.getElem_cons_zero, List.getElem_cons_succ])) | (refine Mine.wp_argc M.out rfl 78 _ rfl _ _ HC7.out rfl _ Tryz.underlying78 (by rfl) ?_; (try simp only [Act.put, List.setIfInBounds_toArray, List.set_cons_zero, List.set_cons_succ, List.drop_succ_cons, List.drop_zero, List.take_succ_cons, List.take_zero, putAt, ints_set, ints_push, List.getElem_toArray, List.getElem_cons_zero, List.getElem_cons_succ]))))
        go_roundw
        case rel => exact ⟨i + 1, HLT.out, by go_num, Lib.hid (HU.out.succ HKY.out HKT.out), Lib.hid M.out.tail⟩
        case measure => have := HLT.out; simp [intOf]; omega
      have HQL : Hid (q < kn1) := by show _ < _; omega
      obtain ⟨bs, os, rfl⟩ := HSN.out.addr (by omega)
      obtain ⟨e, hek, hbe, hce⟩ := HSN.out.flat_cell (k := q) Entry.cells_length (by omega) HQL.out
      have HEK := Lib.hid hek
      obtain ⟨e0, e1, e2⟩ := e
      skip
      have HER : Hid (w.rangeAt bs (os + q * 3) [.int .i64 e0, .int .i64 e1, .int .i64 e2]) := fun u v hu => by
        have h3 : u < 3 := by have := (List.getElem?_eq_some_iff.1 hu).1; simpa using this
        have h4 := hce u h3
        simp only [Entry.cells] at h4
        rw [h4]; exact hu
      have HEB := Lib.hid hbe
      clear hek hbe hce
      by_cases hc0 : 0 ≤ e0 ∧ e0 ≤ 7
      rotate_left
      · have HZ : Hid (famTrue base x = false) := dec_no fun z => AllTo.not HKY.out (by rw [hl5]; exact HLT.out) (fun hkt => AllTo.not HEK.out (by rw [hsl]; exact HQL.out) (fun p => hc0 p.1) hkt) z.2
        have dc : decide (0 ≤ e0 ∧ e0 ≤ 7) = false := by simpa using hc0
        have HGV : Hid ((ints (famAt base x y.since_))[0]? = (ints (famAt base x y.since_))[0]?) := rfl
        clear hc0
        go_wp2_with (first | ((with_reducible show wpList _ _ _ (⟨_, _, _, _, _, none⟩ :: _) _ _); first | (refine Mine.wp_get M.out rfl _ _ rfl 1 _ rfl rfl _ rfl _ (by first | exact Tryz.underlying3 | exact Tryz.underlying22 | exact Tryz.underlying71 | exact Tryz.underlying79 | exact Tryz.underlying78) (by rfl) ?_; (try simp only [Act.put, List.setIfInBounds_toArray, List.set_cons_zero, List.set_cons_succ, List.drop_succ_cons, List.drop_zero, List.take_succ_cons, List.take_zero, putAt, ints_set, ints_push, List.getElem_toArray, List.getElem_cons_zero, List.getElem_cons_succ])) | (refine Mine.wp_argc M.out rfl 78 _ rfl _ _ HC7.out rfl _ Tryz.underlying78 (by rfl) ?_; (try simp only [Act.put, List.setIfInBounds_toArray, List.set_cons_zero, List.set_cons_succ, List.drop_succ_cons, List.drop_zero, List.take_succ_cons, List.take_zero, putAt, ints_set, ints_push, List.getElem_toArray, List.getElem_cons_zero, List.getElem_cons_succ])) | (refine Mine.wp_arg M.out rfl 140 _ rfl _ _ rfl [.int .i64 e0, .int .i64 e1, .int .i64 e2] HER.out HEB.out _ Tryz.underlying140 (by rfl) (by kernel_rfl) ?_; (try simp only [Act.put, List.setIfInBounds_toArray, List.set_cons_zero, List.set_cons_succ, List.drop_succ_cons, List.drop_zero, List.take_succ_cons, List.take_zero, putAt, ints_set, ints_push, List.getElem_toArray, List.getElem_cons_zero, List.getElem_cons_succ])) | (refine Mine.wp_alloc M.out rfl 140 rfl (.agg #[.int .i64 0, .int .i64 0, .int .i64 0]) (by kernel_rfl) ?_; intro ge w' M'; (try simp only [Value.cells, Act.put, List.setIfInBounds_toArray, List.set_cons_zero, List.set_cons_succ, List.drop_succ_cons, List.drop_zero, List.take_succ_cons, List.take_zero, putAt, ints_set, ints_push, List.getElem_toArray, List.getElem_cons_zero, List.getElem_cons_succ] at M'); replace M := Lib.hid M'; clear M'; (try simp only [Act.put, List.setIfInBounds_toArray, List.set_cons_zero, List.set_cons_succ, List.drop_succ_cons, List.drop_zero, List.take_succ_cons, List.take_zero, putAt, ints_set, ints_push, List.getElem_toArray, List.getElem_cons_zero, List.getElem_cons_succ])) | (refine Mine.wp_sets M.out rfl 140 _ _ rfl rfl 0 _ rfl rfl _ rfl (Nat.le_of_ble_eq_true rfl) (by simp [Value.oneCell']) (by kernel_rfl) ?_; intro w' M'; (try simp only [Act.put, List.setIfInBounds_toArray, List.set_cons_zero, List.set_cons_succ, List.drop_succ_cons, List.drop_zero, List.take_succ_cons, List.take_zero, putAt, ints_set, ints_push, List.getElem_toArray, List.getElem_cons_zero, List.getElem_cons_succ] at M'); replace M := Lib.hid M'; clear M')))
        refine Mine.region_quiet M.out (by kernel_rfl) (by kernel_rfl) ?_
        repeat (first | go_big_quiet_skip | (go_big_quiet_want; first | (refine Mine.oq_get _ _ rfl 0 _ rfl rfl _ rfl _ (by first | exact Tryz.underlying3) (by rfl) ?_; (try simp only [Act.put, List.setIfInBounds_toArray, List.set_cons_zero, List.set_cons_succ, List.drop_succ_cons, List.drop_zero, List.take_succ_cons, List.take_zero, putAt, ints_set, ints_push, List.getElem_toArray, List.getElem_cons_zero, List.getElem_cons_succ]); go_big_quiet_on) | (refine Mine.oq_getr _ _ rfl 1 _ rfl rfl _ (by exact HGV.out) _ (by first | exact Tryz.underlying3) (by rfl) ?_; (try simp only [Act.put, List.setIfInBounds_toArray, List.set_cons_zero, List.set_cons_succ, List.drop_succ_cons, List.drop_zero, List.take_succ_cons, List.take_zero, putAt, ints_set, ints_push, List.getElem_toArray, List.getElem_cons_zero, List.getElem_cons_succ]); go_big_quiet_on) | (unfold Oper.quiet; apply Exists.intro; refine ⟨fun wq hq => ?_, ?_⟩; (go_simp; go_at_call 54; (with_reducible refine (l3Cell_is dc _).mono ?_); rintro e w2 ⟨rfl, rfl⟩; exact ⟨rfl, hq⟩); (try simp only [Act.put, List.setIfInBounds_toArray, List.set_cons_succ, List.set_cons_zero]); go_big_quiet_on) | (unfold Oper.quiet; apply Exists.intro; refine ⟨fun wq hq => ?_, ?_⟩; (clear hq; go_simp; first | done | rfl | exact ⟨rfl, rfl⟩); (try simp only [Act.put, List.setIfInBounds_toArray, List.set_cons_succ, List.set_cons_zero]); go_big_quiet_on)))
        refine wpQuiet_nil ?_
        intro w' M'
        replace M := Lib.hid M'
        clear M'
        go_wp2
        go_ret
        exact ⟨by rw [HZ.out]; first | done | rfl, M.out.ext⟩
      have dc : decide (0 ≤ e0 ∧ e0 ≤ 7) = true := by simpa using hc0
      obtain ⟨u, rfl⟩ : ∃ u : Nat, e0 = (u : Int) := ⟨e0.toNat, by omega⟩
      have hu8 : u < 8 := by omega
      have hu1 : (u : Int) < 8 := by omega
      obtain ⟨v, hv⟩ : ∃ v, (famAt base x y.since_)[u]? = some v := ⟨_, List.getElem?_eq_getElem (by rw [valsOk_len HSV.out]; exact hu8)⟩
      have HGV : Hid ((ints (famAt base x y.since_))[u]? = some (.int .i64 v)) := ints_at hv
      have HV5 := Lib.hid hv
      have HC0 := Lib.hid hc0
      clear hc0 hv
      by_cases hve : v = e1
      rotate_left
      · have HZ : Hid (famTrue base x = false) := dec_no fun z => AllTo.not HKY.out (by rw [hl5]; exact HLT.out) (fun hkt => AllTo.not HEK.out (by rw [hsl]; exact HQL.out) (fun p => hve (by have h1 := p.2; rw [Int.toNat_natCast, HV5.out] at h1; injection h1)) hkt) z.2
        have bv : (v != e1) = true := by simpa using hve
        clear hve
        go_wp2_with (first | ((with_reducible show wpList _ _ _ (⟨_, _, _, _, _, none⟩ :: _) _ _); first | (refine Mine.wp_get M.out rfl _ _ rfl 1 _ rfl rfl _ rfl _ (by first | exact Tryz.underlying3 | exact Tryz.underlying22 | exact Tryz.underlying71 | exact Tryz.underlying79 | exact Tryz.underlying78) (by rfl) ?_; (try simp only [Act.put, List.setIfInBounds_toArray, List.set_cons_zero, List.set_cons_succ, List.drop_succ_cons, List.drop_zero, List.take_succ_cons, List.take_zero, putAt, ints_set, ints_push, List.getElem_toArray, List.getElem_cons_zero, List.getElem_cons_succ])) | (refine Mine.wp_argc M.out rfl 78 _ rfl _ _ HC7.out rfl _ Tryz.underlying78 (by rfl) ?_; (try simp only [Act.put, List.setIfInBounds_toArray, List.set_cons_zero, List.set_cons_succ, List.drop_succ_cons, List.drop_zero, List.take_succ_cons, List.take_zero, putAt, ints_set, ints_push, List.getElem_toArray, List.getElem_cons_zero, List.getElem_cons_succ])) | (refine Mine.wp_arg M.out rfl 140 _ rfl _ _ rfl [.int .i64 (u : Int), .int .i64 e1, .int .i64 e2] HER.out HEB.out _ Tryz.underlying140 (by rfl) (by kernel_rfl) ?_; (try simp only [Act.put, List.setIfInBounds_toArray, List.set_cons_zero, List.set_cons_succ, List.drop_succ_cons, List.drop_zero, List.take_succ_cons, List.take_zero, putAt, ints_set, ints_push, List.getElem_toArray, List.getElem_cons_zero, List.getElem_cons_succ])) | (refine Mine.wp_alloc M.out rfl 140 rfl (.agg #[.int .i64 0, .int .i64 0, .int .i64 0]) (by kernel_rfl) ?_; intro ge w' M'; (try simp only [Value.cells, Act.put, List.setIfInBounds_toArray, List.set_cons_zero, List.set_cons_succ, List.drop_succ_cons, List.drop_zero, List.take_succ_cons, List.take_zero, putAt, ints_set, ints_push, List.getElem_toArray, List.getElem_cons_zero, List.getElem_cons_succ] at M'); replace M := Lib.hid M'; clear M'; (try simp only [Act.put, List.setIfInBounds_toArray, List.set_cons_zero, List.set_cons_succ, List.drop_succ_cons, List.drop_zero, List.take_succ_cons, List.take_zero, putAt, ints_set, ints_push, List.getElem_toArray, List.getElem_cons_zero, List.getElem_cons_succ])) | (refine Mine.wp_sets M.out rfl 140 _ _ rfl rfl 0 _ rfl rfl _ rfl (Nat.le_of_ble_eq_true rfl) (by simp [Value.oneCell']) (by kernel_rfl) ?_; intro w' M'; (try simp only [Act.put, List.setIfInBounds_toArray, List.set_cons_zero, List.set_cons_succ, List.drop_succ_cons, List.drop_zero, List.take_succ_cons, List.take_zero, putAt, ints_set, ints_push, List.getElem_toArray, List.getElem_cons_zero, List.getElem_cons_succ] at M'); replace M := Lib.hid M'; clear M')))
        refine Mine.region_quiet M.out (by kernel_rfl) (by kernel_rfl) ?_
        repeat (first | go_big_quiet_skip | (go_big_quiet_want; first | (refine Mine.oq_get _ _ rfl 0 _ rfl rfl _ rfl _ (by first | exact Tryz.underlying3) (by rfl) ?_; (try simp only [Act.put, List.setIfInBounds_toArray, List.set_cons_zero, List.set_cons_succ, List.drop_succ_cons, List.drop_zero, List.take_succ_cons, List.take_zero, putAt, ints_set, ints_push, List.getElem_toArray, List.getElem_cons_zero, List.getElem_cons_succ]); go_big_quiet_on) | (refine Mine.oq_getr _ _ rfl 1 _ rfl rfl _ (by exact HGV.out) _ (by first | exact Tryz.underlying3) (by rfl) ?_; (try simp only [Act.put, List.setIfInBounds_toArray, List.set_cons_zero, List.set_cons_succ, List.drop_succ_cons, List.drop_zero, List.take_succ_cons, List.take_zero, putAt, ints_set, ints_push, List.getElem_toArray, List.getElem_cons_zero, List.getElem_cons_succ]); go_big_quiet_on) | (unfold Oper.quiet; apply Exists.intro; refine ⟨fun wq hq => ?_, ?_⟩; (go_simp; go_at_call 54; (with_reducible refine (l3Cell_is dc _).mono ?_); rintro e w2 ⟨rfl, rfl⟩; exact ⟨rfl, hq⟩); (try simp only [Act.put, List.setIfInBounds_toArray, List.set_cons_succ, List.set_cons_zero]); go_big_quiet_on) | (unfold Oper.quiet; apply Exists.intro; refine ⟨fun wq hq => ?_, ?_⟩; (clear hq; go_simp; first | done | rfl | exact ⟨rfl, rfl⟩); (try simp only [Act.put, List.setIfInBounds_toArray, List.set_cons_succ, List.set_cons_zero]); go_big_quiet_on)))
        refine wpQuiet_nil ?_
        intro w' M'
        replace M := Lib.hid M'
        clear M'
        go_wp2
        go_ret
        exact ⟨by rw [HZ.out]; first | done | rfl, M.out.ext⟩
      have HSK : Hid (seenOk (famAt base x y.since_) q ⟨(u : Int), e1, e2⟩) := ⟨HC0.out, by rw [Int.toNat_natCast, HV5.out, hve]⟩
      have bv : (v != e1) = false := by simp [hve]
      clear hve
      go_wp2_with (first | ((with_reducible show wpList _ _ _ (⟨_, _, _, _, _, none⟩ :: _) _ _); first | (refine Mine.wp_get M.out rfl _ _ rfl 1 _ rfl rfl _ rfl _ (by first | exact Tryz.underlying3 | exact Tryz.underlying22 | exact Tryz.underlying71 | exact Tryz.underlying79 | exact Tryz.underlying78) (by rfl) ?_; (try simp only [Act.put, List.setIfInBounds_toArray, List.set_cons_zero, List.set_cons_succ, List.drop_succ_cons, List.drop_zero, List.take_succ_cons, List.take_zero, putAt, ints_set, ints_push, List.getElem_toArray, List.getElem_cons_zero, List.getElem_cons_succ])) | (refine Mine.wp_argc M.out rfl 78 _ rfl _ _ HC7.out rfl _ Tryz.underlying78 (by rfl) ?_; (try simp only [Act.put, List.setIfInBounds_toArray, List.set_cons_zero, List.set_cons_succ, List.drop_succ_cons, List.drop_zero, List.take_succ_cons, List.take_zero, putAt, ints_set, ints_push, List.getElem_toArray, List.getElem_cons_zero, List.getElem_cons_succ])) | (refine Mine.wp_arg M.out rfl 140 _ rfl _ _ rfl [.int .i64 (u : Int), .int .i64 e1, .int .i64 e2] HER.out HEB.out _ Tryz.underlying140 (by rfl) (by kernel_rfl) ?_; (try simp only [Act.put, List.setIfInBounds_toArray, List.set_cons_zero, List.set_cons_succ, List.drop_succ_cons, List.drop_zero, List.take_succ_cons, List.take_zero, putAt, ints_set, ints_push, List.getElem_toArray, List.getElem_cons_zero, List.getElem_cons_succ])) | (refine Mine.wp_alloc M.out rfl 140 rfl (.agg #[.int .i64 0, .int .i64 0, .int .i64 0]) (by kernel_rfl) ?_; intro ge w' M'; (try simp only [Value.cells, Act.put, List.setIfInBounds_toArray, List.set_cons_zero, List.set_cons_succ, List.drop_succ_cons, List.drop_zero, List.take_succ_cons, List.take_zero, putAt, ints_set, ints_push, List.getElem_toArray, List.getElem_cons_zero, List.getElem_cons_succ] at M'); replace M := Lib.hid M'; clear M'; (try simp only [Act.put, List.setIfInBounds_toArray, List.set_cons_zero, List.set_cons_succ, List.drop_succ_cons, List.drop_zero, List.take_succ_cons, List.take_zero, putAt, ints_set, ints_push, List.getElem_toArray, List.getElem_cons_zero, List.getElem_cons_succ])) | (refine Mine.wp_sets M.out rfl 140 _ _ rfl rfl 0 _ rfl rfl _ rfl (Nat.le_of_ble_eq_true rfl) (by simp [Value.oneCell']) (by kernel_rfl) ?_; intro w' M'; (try simp only [Act.put, List.setIfInBounds_toArray, List.set_cons_zero, List.set_cons_succ, List.drop_succ_cons, List.drop_zero, List.take_succ_cons, List.take_zero, putAt, ints_set, ints_push, List.getElem_toArray, List.getElem_cons_zero, List.getElem_cons_succ] at M'); replace M := Lib.hid M'; clear M')))
      refine Mine.region_quiet M.out (by kernel_rfl) (by kernel_rfl) ?_
      repeat (first | go_big_quiet_skip | (go_big_quiet_want; first | (refine Mine.oq_get _ _ rfl 0 _ rfl rfl _ rfl _ (by first | exact Tryz.underlying3) (by rfl) ?_; (try simp only [Act.put, List.setIfInBounds_toArray, List.set_cons_zero, List.set_cons_succ, List.drop_succ_cons, List.drop_zero, List.take_succ_cons, List.take_zero, putAt, ints_set, ints_push, List.getElem_toArray, List.getElem_cons_zero, List.getElem_cons_succ]); go_big_quiet_on) | (refine Mine.oq_getr _ _ rfl 1 _ rfl rfl _ (by exact HGV.out) _ (by first | exact Tryz.underlying3) (by rfl) ?_; (try simp only [Act.put, List.setIfInBounds_toArray, List.set_cons_zero, List.set_cons_succ, List.drop_succ_cons, List.drop_zero, List.take_succ_cons, List.take_zero, putAt, ints_set, ints_push, List.getElem_toArray, List.getElem_cons_zero, List.getElem_cons_succ]); go_big_quiet_on) | (unfold Oper.quiet; apply Exists.intro; refine ⟨fun wq hq => ?_, ?_⟩; (go_simp; go_at_call 54; (with_reducible refine (l3Cell_is dc _).mono ?_); rintro e w2 ⟨rfl, rfl⟩; exact ⟨rfl, hq⟩); (try simp only [Act.put, List.setIfInBounds_toArray, List.set_cons_succ, List.set_cons_zero]); go_big_quiet_on) | (unfold Oper.quiet; apply Exists.intro; refine ⟨fun wq hq => ?_, ?_⟩; (clear hq; go_simp; first | done | rfl | exact ⟨rfl, rfl⟩); (try simp only [Act.put, List.setIfInBounds_toArray, List.set_cons_succ, List.set_cons_zero]); go_big_quiet_on)))
      refine wpQuiet_nil ?_
      intro w' M'
      replace M := Lib.hid M'
      clear M'
      go_wp2
      go_roundw
      case rel => exact ⟨q + 1, HQL.out, by go_num, Lib.hid (HV.out.succ HEK.out HSK.out), Lib.hid M.out.tail⟩
      case measure => have := HQL.out; simp [intOf]; omega

end Go.Proofs.YtglplgbhhnmgbaaGreat
