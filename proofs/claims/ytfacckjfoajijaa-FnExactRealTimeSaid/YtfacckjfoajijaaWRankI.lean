/- Ranks of the program. No condition. -/
import Derived.Test.YtfacckjfoajijaaWRankE
namespace Go.Proofs.Ytfacckjfoajijaa
open Go.RowKit Go.Deep
set_option linter.unusedSimpArgs false
set_option linter.unusedVariables false

set_option maxRecDepth 8000 in
set_option maxHeartbeats 8000000 in
theorem rankC_any {b wq : World} {gw : Nat} (x : GWorld) (A0 : Option Addr) (n0 c0 : Nat) (A1 : Option Addr) (n1 c1 : Nat) (A2 : Option Addr) (n2 c2 : Nat) (A3 : Option Addr) (n3 c3 : Nat) (A4 : Option Addr) (n4 c4 : Nat) (S : Nat → Prop) (hr : SlR Root.R 40 b S A3 n3 x.roots_) (hn : n3 ≤ 1048576) (M0 : Mine b wq [.box gw 74 #[.int .i64 x.now_, .int .i64 x.token_, .int .i64 x.mem_.clock_, .slice A0 n0 c0, .slice A1 n1 c1, .int .i64 x.shelf_.count_, .slice A2 n2 c2, .slice A3 n3 c3, .slice A4 n4 c4]]) (i j : Nat) (hi : i < n3) (hj : j < n3) :
    Calls Try.prog 111 #[.int .i64 i, .int .i64 j, .pointer (some ⟨gw, 0, none⟩)] wq fun e w' => e = .returned (.int .i64 ((rkeys x).z i j)) ∧ Ext wq w' := by
  have M : Hid (Mine wq wq []) := Mine.refl wq
  obtain ⟨bb, o, rfl⟩ := hr.addr (by omega)
  obtain ⟨r, row1, hk1, hrb, hw1, hl1, hg1⟩ := root_at hr hi
  obtain ⟨s, row2, hk2, -, hw2, hl2, hg2⟩ := root_at hr hj
  have HZ : Hid ((rkeys x).z i j = zR r s) := by show _ = _; rw [rkeys_z, rootAt_is hk1, rootAt_is hk2]
  have HC7 : Hid (wq.cell? ⟨gw, 7, none⟩ = some (.slice (some ⟨bb, o, none⟩) n3 c3) ∧ gw < wq.heap.size) := ⟨((M0.box_at 0 rfl).cell 7).trans rfl, (M0.box_at 0 rfl).lt⟩
  have HW1 := Lib.hid (Root.R_good.ext hw1 M0.ext)
  have HL1 := Lib.hid hl1
  have HG1 := Lib.hid (fun q v hv => (M0.ext.cell (p := ⟨bb, _, none⟩) hrb).trans (hg1 q v hv))
  have HW2 := Lib.hid (Root.R_good.ext hw2 M0.ext)
  have HL2 := Lib.hid hl2
  have HG2 := Lib.hid (fun q v hv => (M0.ext.cell (p := ⟨bb, _, none⟩) hrb).trans (hg2 q v hv))
  have HRB := Lib.hid (Nat.lt_of_lt_of_le hrb M0.ext.size)
  have hi2 : (i : Int) < (n3 : Int) := by omega
  have hj2 : (j : Int) < (n3 : Int) := by omega
  clear M0 hr hk1 hk2 hw1 hw2 hl1 hl2 hg1 hg2 hrb hi hj
  go_enter Try.func111, Try.ntmps111
  go_wp2
  refine Mine.region_quiet M.out (by kernel_rfl) (by kernel_rfl) ?_
  repeat (first | go_big_quiet_skip | (go_big_quiet_want; first | (refine Mine.oq_arg 71 _ rfl _ _ HC7.out rfl _ Try.underlying71 (by rfl) ?_; (try simp only [Act.put, List.setIfInBounds_toArray, List.set_cons_zero, List.set_cons_succ, List.drop_succ_cons, List.drop_zero, List.take_succ_cons, List.take_zero, putAt, ints_set, ints_push, List.getElem_toArray, List.getElem_cons_zero, List.getElem_cons_succ]); go_big_quiet_on) | (refine Mine.oq_argall 49 _ rfl _ _ rfl row1 HG1.out HRB.out _ Try.underlying49 (by rfl) (by rw [HL1.out]; kernel_rfl) ?_; (try simp only [Act.put, List.setIfInBounds_toArray, List.set_cons_zero, List.set_cons_succ, List.drop_succ_cons, List.drop_zero, List.take_succ_cons, List.take_zero, putAt, ints_set, ints_push, List.getElem_toArray, List.getElem_cons_zero, List.getElem_cons_succ]); go_big_quiet_on) | (refine Mine.oq_argall 49 _ rfl _ _ rfl row2 HG2.out HRB.out _ Try.underlying49 (by rfl) (by rw [HL2.out]; kernel_rfl) ?_; (try simp only [Act.put, List.setIfInBounds_toArray, List.set_cons_zero, List.set_cons_succ, List.drop_succ_cons, List.drop_zero, List.take_succ_cons, List.take_zero, putAt, ints_set, ints_push, List.getElem_toArray, List.getElem_cons_zero, List.getElem_cons_succ]); go_big_quiet_on) | (unfold Oper.quiet; apply Exists.intro; refine ⟨fun wq hq => ?_, ?_⟩; (go_simp; go_at_call 112; (with_reducible refine (earlier_any r s row1 row2 _ S S (Root.R_good.ext HW1.out hq.ext) (Root.R_good.ext HW2.out hq.ext)).mono ?_); rintro e w2 ⟨rfl, x2⟩; exact ⟨rfl, hq.on x2⟩); (try simp only [Act.put, List.setIfInBounds_toArray, List.set_cons_succ, List.set_cons_zero]); go_big_quiet_on) | (unfold Oper.quiet; apply Exists.intro; refine ⟨fun wq hq => ?_, ?_⟩; (clear hq; go_simp; first | done | rfl | exact ⟨rfl, rfl⟩); (try simp only [Act.put, List.setIfInBounds_toArray, List.set_cons_succ, List.set_cons_zero]); go_big_quiet_on)))
  refine wpQuiet_nil ?_
  intro w' M'
  replace M := Lib.hid M'
  clear M'
  go_wp2
  go_ret
  exact ⟨by rw [HZ.out]; rfl, M.out.ext⟩
set_option maxRecDepth 8000 in
set_option maxHeartbeats 16000000 in
theorem impl_Ranks2 (x : GWorld) (cs : List Value) (w : World) (S : Nat → Prop) (h : GWorld.R w S cs x) (_hw : GWorld.wt x ≤ 1048576) :
    Calls Try.prog 75 #[.agg cs.toArray] w fun e w' => ∃ g m d, e = .returned (.slice (some ⟨g, 0, none⟩) m d) ∧ w'.ownsRow w.heap.size 3 1 (.slice (some ⟨g, 0, none⟩) m d) m (ints (ranksOf x)) ∧ Ext w w' := by
  obtain ⟨v0, v1, A2, n2, c2, A3, n3, c3, A4, n4, c4, rfl, h0, h1, ⟨kh2, mh2, h2⟩, ⟨kh3, mh3, h3⟩, ⟨kh4, mh4, h4⟩⟩ := h
  obtain ⟨A0, n0, c0, rfl⟩ := Mem.R_cells h0
  obtain ⟨A1, n1, c1, rfl⟩ := Shelf.R_cells h1
  have HR := Lib.hid h3
  have HRN := Lib.hid h3.1
  have hn3 : n3 ≤ 1048576 := by have a := roots_le x _hw; have b := HRN.out; omega
  clear h0 h1 h2 h3 h4
  have M : Hid (Mine w (w.alloc (.cells #[.int .i64 x.now_, .int .i64 x.token_, .int .i64 x.mem_.clock_, .slice A0 n0 c0, .slice A1 n1 c1, .int .i64 x.shelf_.count_, .slice A2 n2 c2, .slice A3 n3 c3, .slice A4 n4 c4] 74)) [.box w.heap.size 74 #[.int .i64 x.now_, .int .i64 x.token_, .int .i64 x.mem_.clock_, .slice A0 n0 c0, .slice A1 n1 c1, .int .i64 x.shelf_.count_, .slice A2 n2 c2, .slice A3 n3 c3, .slice A4 n4 c4]]) := (Mine.refl w).box 74 #[.int .i64 x.now_, .int .i64 x.token_, .int .i64 x.mem_.clock_, .slice A0 n0 c0, .slice A1 n1 c1, .int .i64 x.shelf_.count_, .slice A2 n2 c2, .slice A3 n3 c3, .slice A4 n4 c4]
  skip
  show Calls Try.prog _ #[.agg #[.int .i64 x.now_, .int .i64 x.token_, .int .i64 x.mem_.clock_, .slice A0 n0 c0, .slice A1 n1 c1, .int .i64 x.shelf_.count_, .slice A2 n2 c2, .slice A3 n3 c3, .slice A4 n4 c4]] w _
  go_enter Try.func75, Try.ntmps75
  replace M := Lib.hid (M.out.own (own_emptyI _) ((Ext.refl' _).al _))
  simp only [World.heap_alloc_size] at M
  go_wp2_with (first | ((with_reducible show wpList _ _ _ (⟨_, _, _, _, _, none⟩ :: _) _ _); first | (refine Mine.wp_get M.out rfl _ _ rfl 1 _ rfl rfl _ rfl _ (by first | exact Try.underlying71) (by rfl) ?_; (try simp only [Act.put, List.setIfInBounds_toArray, List.set_cons_zero, List.set_cons_succ, List.drop_succ_cons, List.drop_zero, List.take_succ_cons, List.take_zero, putAt, ints_set, ints_push, List.getElem_toArray, List.getElem_cons_zero, List.getElem_cons_succ]))))
  go_loopw [3, 10] (fun u i wr => ∃ (k m d g : Nat), k ≤ n3 ∧ u = .slice (some ⟨g, 0, none⟩) m d ∧ i = .int .i64 k ∧ Hid (Mine w wr [.row 3 1 (some ⟨g, 0, none⟩) m d (ints (pickTo settledOf x.roots_ k)), .box w.heap.size 74 #[.int .i64 x.now_, .int .i64 x.token_, .int .i64 x.mem_.clock_, .slice A0 n0 c0, .slice A1 n1 c1, .int .i64 x.shelf_.count_, .slice A2 n2 c2, .slice A3 n3 c3, .slice A4 n4 c4]])) (fun _ i _ => n3 - (intOf i).toNat)
  case atStart => exact ⟨0, _, _, _, Nat.zero_le _, rfl, rfl, M⟩
  case round =>
    clear M
    obtain ⟨k, m, d, g, hk, rfl, rfl, M⟩ := hrel
    have hm : m ≤ 1048576 := by have h1 := M.out.len1 0 rfl; rw [ints_length] at h1; have h2 := pick_len settledOf x.roots_ k; omega
    by_cases hlt : (k : Int) < (n3 : Int)
    rotate_left
    · have e : Hid (k = x.roots_.length) := by show k = _; have a := HRN.out; omega
      have M9 := M.out
      rw [e.out] at M9
      have HC : Hid (CmpC w [.box w.heap.size 74 #[.int .i64 x.now_, .int .i64 x.token_, .int .i64 x.mem_.clock_, .slice A0 n0 c0, .slice A1 n1 c1, .int .i64 x.shelf_.count_, .slice A2 n2 c2, .slice A3 n3 c3, .slice A4 n4 c4]] (rkeys x) (pickTo settledOf x.roots_ x.roots_.length) w.heap.size) := fun wq i j Mq hi hj => by
        obtain ⟨i1, r1, hi1, rfl, hr1, _⟩ := pick_mem.1 hi
        obtain ⟨j1, r2, hj1, rfl, hr2, _⟩ := pick_mem.1 hj
        exact rankC_any x A0 n0 c0 A1 n1 c1 A2 n2 c2 A3 n3 c3 A4 n4 c4 S HR.out hn3 Mq i1 j1 (by have a := HRN.out; omega) (by have a := HRN.out; omega)
      have M8 := Lib.hid M9
      clear M M9
      go_wp2_with fail
      refine (sortStable_m M8.out HC.out (pick_asc _ _ _) hm).mono ?_
      rintro e w1 ⟨rfl, M1⟩
      have M7 := Lib.hid M1
      clear M1 M8
      go_wp2
      go_ret
      exact ⟨_, _, _, rfl, M7.out.row_at 0 rfl, M7.out.ext⟩
    have HLT : Hid (k < n3) := by show _ < _; omega
    obtain ⟨b, o, rfl⟩ := HR.out.addr (by omega)
    obtain ⟨r, row, hsk, hrb, hrw, hrl, hrg⟩ := root_at HR.out (k := k) (by omega)
    have HSK := Lib.hid hsk
    have HRW := Lib.hid hrw
    have HRL := Lib.hid hrl
    have HRG := Lib.hid hrg
    have HRB := Lib.hid hrb
    have hf0 := Root.first hrw
    clear hsk hrw hrl hrg hrb
    clear hf0
    go_wp2_with (first | ((with_reducible show wpList _ _ _ (⟨_, _, _, _, _, none⟩ :: _) _ _); first | (refine Mine.wp_arg M.out rfl 49 _ rfl _ _ rfl row HRG.out HRB.out _ Try.underlying49 (by rfl) (by rw [HRL.out]; kernel_rfl) ?_; (try simp only [Act.put, List.setIfInBounds_toArray, List.set_cons_zero, List.set_cons_succ, List.drop_succ_cons, List.drop_zero, List.take_succ_cons, List.take_zero, putAt, ints_set, ints_push, List.getElem_toArray, List.getElem_cons_zero, List.getElem_cons_succ])) | (refine Mine.wp_allocany M.out rfl 49 rfl 40 (by kernel_rfl) ?_; intro gx w' zx hzx M'; replace M := Lib.hid M'; clear M'; (try simp only [Act.put, List.setIfInBounds_toArray, List.set_cons_zero, List.set_cons_succ, List.drop_succ_cons, List.drop_zero, List.take_succ_cons, List.take_zero, putAt, ints_set, ints_push, List.getElem_toArray, List.getElem_cons_zero, List.getElem_cons_succ])) | (refine Mine.wp_setall M.out rfl 49 _ _ rfl rfl 0 rfl rfl _ rfl (by rw [hzx, HRL.out]) (Root.R_one HRW.out) (by rw [HRL.out]; kernel_rfl) ?_; intro w' M'; (try simp only [Act.put, List.setIfInBounds_toArray, List.set_cons_zero, List.set_cons_succ, List.drop_succ_cons, List.drop_zero, List.take_succ_cons, List.take_zero, putAt, ints_set, ints_push, List.getElem_toArray, List.getElem_cons_zero, List.getElem_cons_succ] at M'); replace M := Lib.hid M'; clear M') | (refine Mine.wp_getall M.out rfl 49 _ rfl 0 rfl rfl _ Try.underlying49 (by rfl) (by rw [List.size_toArray, HRL.out]; kernel_rfl) ?_; (try simp only [Act.put, List.setIfInBounds_toArray, List.set_cons_zero, List.set_cons_succ, List.drop_succ_cons, List.drop_zero, List.take_succ_cons, List.take_zero, putAt, ints_set, ints_push, List.getElem_toArray, List.getElem_cons_zero, List.getElem_cons_succ]))))
    refine (impl_Settled r row _ _ (Root.R_good.ext HRW.out M.out.ext)).mono ?_
    rintro e w1 ⟨rfl, x1⟩
    replace M := Lib.hid (M.out.on x1)
    clear x1
    cases hv : settledOf r
    · have HN := Lib.hid hv
      clear hv
      go_wp2
      go_roundw
      case rel => exact ⟨k + 1, m, d, g, HLT.out, rfl, by go_num, Lib.hid (by rw [pick_no HSK.out HN.out]; exact M.out.tail)⟩
      case measure => have := HLT.out; simp [intOf]; omega
    have HY := Lib.hid hv
    clear hv
    go_wp2_with (first | (at_builtin; refine Mine.wp_push M.out rfl _ _ 22 rfl 3 _ _ _ Try.underlying22 Try.infoInt rfl (by omega) 1 rfl rfl _ _ rfl rfl rfl (by simp [Value.oneCell']) (by omega) (by unfold maxLen; omega) ?_; intro A2 c2 w' M'; obtain ⟨gp, rfl⟩ := Mine.addr M' 1 rfl (Nat.succ_pos _); (try simp only [Act.put, List.setIfInBounds_toArray, List.set_cons_zero, List.set_cons_succ, List.drop_succ_cons, List.drop_zero, List.take_succ_cons, List.take_zero, putAt, ints_set, ints_push, List.getElem_toArray, List.getElem_cons_zero, List.getElem_cons_succ] at M'); replace M := Lib.hid M'; clear M'))
    go_roundw
    case rel => exact ⟨k + 1, _, _, _, HLT.out, rfl, by go_num, Lib.hid (by rw [pick_yes HSK.out HY.out]; exact M.out.tail)⟩
    case measure => have := HLT.out; simp [intOf]; omega
theorem impl_Ranks (x : GWorld) (cs : List Value) (w : World) (S : Nat → Prop) (h : GWorld.R w S cs x) (_hw : GWorld.wt x ≤ 1048576) :
    Calls Try.prog 75 #[.agg cs.toArray] w fun e w' => ∃ B m d, e = .returned (.slice B m d) ∧ w'.ownsRow w.heap.size 3 1 (.slice B m d) m (ints (ranksOf x)) ∧ Ext w w' :=
  (impl_Ranks2 x cs w S h _hw).mono fun e w' ⟨g, m, d, h1, h2, h3⟩ => ⟨_, m, d, h1, h2, h3⟩
end Go.Proofs.Ytfacckjfoajijaa
