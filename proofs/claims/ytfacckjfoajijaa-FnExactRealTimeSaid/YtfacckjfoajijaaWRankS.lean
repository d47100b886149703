/- Ranks of the reference. No condition. -/
import Derived.Test.YtfacckjfoajijaaWRankE
namespace Go.Proofs.Ytfacckjfoajijaa
open Go.RowKit Go.Deep
set_option linter.unusedSimpArgs false
set_option linter.unusedVariables false

theorem dec_is {p q : Prop} [Decidable q] (h : p ↔ q) : dec p = decide q := by
  unfold dec
  by_cases hq : q
  · rw [decide_eq_true hq]; exact @decide_eq_true _ (Classical.propDecidable p) (h.2 hq)
  · rw [decide_eq_false hq]; exact @decide_eq_false _ (Classical.propDecidable p) (fun k => hq (h.1 k))
/-- How many of the first k lie ahead. -/
noncomputable def cntTo (K : Keys) (l : List Int) (x : Int) (k : Nat) : Nat := ahead K (l.take k) x
theorem cnt_zero (K : Keys) (l : List Int) (x : Int) : cntTo K l x 0 = 0 := rfl
theorem cnt_all (K : Keys) (l : List Int) (x : Int) {k : Nat} (h : k = l.length) : cntTo K l x k = ahead K l x := by unfold cntTo; rw [h, List.take_length]
theorem cnt_yes {K : Keys} {l : List Int} {x y : Int} {k : Nat} (h : l[k]? = some y) (ht : dec (K.T y x) = true) : cntTo K l x (k + 1) = cntTo K l x k + 1 := by
  obtain ⟨h1, h2⟩ := List.getElem?_eq_some_iff.1 h
  have ht' := dec_true ht
  unfold cntTo ahead
  rw [List.take_succ_eq_append_getElem h1, h2, List.filter_append, List.length_append]
  simp [ht']
theorem cnt_no {K : Keys} {l : List Int} {x y : Int} {k : Nat} (h : l[k]? = some y) (ht : dec (K.T y x) = false) : cntTo K l x (k + 1) = cntTo K l x k := by
  obtain ⟨h1, h2⟩ := List.getElem?_eq_some_iff.1 h
  have ht' := dec_false ht
  unfold cntTo ahead
  rw [List.take_succ_eq_append_getElem h1, h2, List.filter_append, List.length_append]
  simp [ht']
theorem cnt_le (K : Keys) (l : List Int) (x : Int) (k : Nat) : cntTo K l x k ≤ k := by
  unfold cntTo ahead
  refine Nat.le_trans (List.length_filter_le _ _) ?_
  rw [List.length_take]; omega
theorem ahead_lt {K : Keys} {l : List Int} (hn : l.Nodup) {x : Int} (hx : x ∈ l) : ahead K l x < l.length := by
  have h := rank_at (K := K) hn hx
  obtain ⟨h1, _⟩ := List.getElem?_eq_some_iff.1 h
  rw [(rank_perm K l).length_eq] at h1
  exact h1
theorem placed_step {K : Keys} {l O : List Int} {i : Nat} {x : Int} (hn : l.Nodup) (hO : O.length = l.length) (hx : l[i]? = some x) (h : ∀ (q : Nat) (y : Int), q < i → l[q]? = some y → O[ahead K l y]? = some y) :
    ∀ (q : Nat) (y : Int), q < i + 1 → l[q]? = some y → (O.set (ahead K l x) x)[ahead K l y]? = some y := by
  intro q y hq hy
  have hxm := List.mem_of_getElem? hx
  have hym := List.mem_of_getElem? hy
  by_cases e : ahead K l x = ahead K l y
  · have h1 := rank_at (K := K) hn hxm
    have h2 := rank_at (K := K) hn hym
    rw [e, h2] at h1
    injection h1 with h1
    subst h1
    rw [List.getElem?_set_self (by rw [hO]; exact ahead_lt hn hym)]
  · rw [List.getElem?_set_ne e]
    refine h q y ?_ hy
    have : q ≠ i := by intro e2; subst e2; rw [hx] at hy; injection hy with hy; subst hy; exact e rfl
    omega
theorem placed_all {K : Keys} {l O : List Int} (hn : l.Nodup) (hO : O.length = l.length) (h : ∀ (q : Nat) (y : Int), q < l.length → l[q]? = some y → O[ahead K l y]? = some y) : O = rankList K l := by
  have hp := rank_perm K l
  refine List.ext_getElem? fun q => ?_
  by_cases hq : q < l.length
  · have hq2 : q < (rankList K l).length := by rw [hp.length_eq]; exact hq
    have h1 := List.getElem?_eq_getElem hq2
    obtain ⟨p, hp1, hp2⟩ := List.getElem_of_mem (hp.subset (List.getElem_mem hq2))
    have h2 := ahead_at (rank_sorted hn) h1
    rw [ahead_perm hp] at h2
    have h3 := h p _ hp1 (by rw [List.getElem?_eq_getElem hp1, hp2])
    rw [h2] at h3
    rw [h3, h1]
  · rw [List.getElem?_eq_none (by omega), List.getElem?_eq_none (by rw [hp.length_eq]; omega)]

set_option maxRecDepth 8000 in
set_option maxHeartbeats 16000000 in
theorem ahead_any {b w : World} (x : GWorld) (A0 : Option Addr) (n0 c0 : Nat) (A1 : Option Addr) (n1 c1 : Nat) (A2 : Option Addr) (n2 c2 : Nat) (A3 : Option Addr) (n3 c3 : Nat) (A4 : Option Addr) (n4 c4 : Nat) (S : Nat → Prop) (hr : SlR Root.R 40 b S A3 n3 x.roots_) (hn : n3 ≤ 1048576) (hx : Ext b w) (i j : Nat) (hi : i < n3) (hj : j < n3) :
    Calls Try.prog 109 #[.agg #[.int .i64 x.now_, .int .i64 x.token_, .int .i64 x.mem_.clock_, .slice A0 n0 c0, .slice A1 n1 c1, .int .i64 x.shelf_.count_, .slice A2 n2 c2, .slice A3 n3 c3, .slice A4 n4 c4], .int .i64 i, .int .i64 j] w fun e w' => e = .returned (.bool (dec ((rkeys x).T i j))) ∧ Ext w w' := by
  have M : Hid (Mine w (w.alloc (.cells #[.int .i64 x.now_, .int .i64 x.token_, .int .i64 x.mem_.clock_, .slice A0 n0 c0, .slice A1 n1 c1, .int .i64 x.shelf_.count_, .slice A2 n2 c2, .slice A3 n3 c3, .slice A4 n4 c4] 74)) [.box w.heap.size 74 #[.int .i64 x.now_, .int .i64 x.token_, .int .i64 x.mem_.clock_, .slice A0 n0 c0, .slice A1 n1 c1, .int .i64 x.shelf_.count_, .slice A2 n2 c2, .slice A3 n3 c3, .slice A4 n4 c4]]) := (Mine.refl w).box 74 #[.int .i64 x.now_, .int .i64 x.token_, .int .i64 x.mem_.clock_, .slice A0 n0 c0, .slice A1 n1 c1, .int .i64 x.shelf_.count_, .slice A2 n2 c2, .slice A3 n3 c3, .slice A4 n4 c4]
  obtain ⟨bb, o, rfl⟩ := hr.addr (by omega)
  obtain ⟨r, row1, hk1, hrb, hw1, hl1, hg1⟩ := root_at hr hi
  obtain ⟨s, row2, hk2, -, hw2, hl2, hg2⟩ := root_at hr hj
  have HT : Hid ((rkeys x).T i j ↔ ltR r s ∨ (¬ ltR s r ∧ (i : Int) < j)) := by show _ ↔ _; unfold Keys.T; rw [rkeys_lt, rkeys_lt, rootAt_is hk1, rootAt_is hk2]
  have HW1 := Lib.hid (Root.R_good.ext hw1 hx)
  have HL1 := Lib.hid hl1
  have HG1 := Lib.hid (fun q v hv => (hx.cell (p := ⟨bb, _, none⟩) hrb).trans (hg1 q v hv))
  have HW2 := Lib.hid (Root.R_good.ext hw2 hx)
  have HL2 := Lib.hid hl2
  have HG2 := Lib.hid (fun q v hv => (hx.cell (p := ⟨bb, _, none⟩) hrb).trans (hg2 q v hv))
  have a4 := Root.at4 hw1
  have a10 := Root.at10 hw1
  have b4 := Root.at4 hw2
  have b10 := Root.at10 hw2
  have HRB := Lib.hid (Nat.lt_of_lt_of_le hrb hx.size)
  have hi2 : (i : Int) < (n3 : Int) := by omega
  have hj2 : (j : Int) < (n3 : Int) := by omega
  obtain ⟨X, hX⟩ : ∃ X, X = stampOf r := ⟨_, rfl⟩
  obtain ⟨Y, hY⟩ : ∃ Y, Y = stampOf s := ⟨_, rfl⟩
  have HX := Lib.hid hX
  have HY := Lib.hid hY
  clear hr hk1 hk2 hw1 hw2 hl1 hl2 hg1 hg2 hrb hi hj hX hY hx
  go_enter Try.func109, Try.ntmps109
  go_wp2_with (first | ((with_reducible show wpList _ _ _ (⟨_, _, _, _, _, none⟩ :: _) _ _); first | (refine Mine.wp_get M.out rfl _ _ rfl 0 _ rfl rfl _ rfl _ (by first | exact Try.underlying71) (by rfl) ?_; (try simp only [Act.put, List.setIfInBounds_toArray, List.set_cons_zero, List.set_cons_succ, List.drop_succ_cons, List.drop_zero, List.take_succ_cons, List.take_zero, putAt, ints_set, ints_push, List.getElem_toArray, List.getElem_cons_zero, List.getElem_cons_succ])) | (refine Mine.wp_get M.out rfl _ _ rfl 1 _ rfl rfl _ rfl _ (by first | exact Try.underlying71) (by rfl) ?_; (try simp only [Act.put, List.setIfInBounds_toArray, List.set_cons_zero, List.set_cons_succ, List.drop_succ_cons, List.drop_zero, List.take_succ_cons, List.take_zero, putAt, ints_set, ints_push, List.getElem_toArray, List.getElem_cons_zero, List.getElem_cons_succ])) | (refine Mine.wp_arg M.out rfl 49 _ rfl _ _ rfl row1 HG1.out HRB.out _ Try.underlying49 (by rfl) (by rw [HL1.out]; kernel_rfl) ?_; (try simp only [Act.put, List.setIfInBounds_toArray, List.set_cons_zero, List.set_cons_succ, List.drop_succ_cons, List.drop_zero, List.take_succ_cons, List.take_zero, putAt, ints_set, ints_push, List.getElem_toArray, List.getElem_cons_zero, List.getElem_cons_succ])) | (refine Mine.wp_arg M.out rfl 49 _ rfl _ _ rfl row2 HG2.out HRB.out _ Try.underlying49 (by rfl) (by rw [HL2.out]; kernel_rfl) ?_; (try simp only [Act.put, List.setIfInBounds_toArray, List.set_cons_zero, List.set_cons_succ, List.drop_succ_cons, List.drop_zero, List.take_succ_cons, List.take_zero, putAt, ints_set, ints_push, List.getElem_toArray, List.getElem_cons_zero, List.getElem_cons_succ])) | (refine Mine.wp_allocany M.out rfl 49 rfl 40 (by kernel_rfl) ?_; intro gx w' zx hzx M'; replace M := Lib.hid M'; clear M'; (try simp only [Act.put, List.setIfInBounds_toArray, List.set_cons_zero, List.set_cons_succ, List.drop_succ_cons, List.drop_zero, List.take_succ_cons, List.take_zero, putAt, ints_set, ints_push, List.getElem_toArray, List.getElem_cons_zero, List.getElem_cons_succ])) | (refine Mine.wp_setall M.out rfl 49 _ _ rfl rfl 0 rfl rfl _ rfl (by rw [hzx, HL1.out]) (Root.R_one HW1.out) (by rw [HL1.out]; kernel_rfl) ?_; intro w' M'; (try simp only [Act.put, List.setIfInBounds_toArray, List.set_cons_zero, List.set_cons_succ, List.drop_succ_cons, List.drop_zero, List.take_succ_cons, List.take_zero, putAt, ints_set, ints_push, List.getElem_toArray, List.getElem_cons_zero, List.getElem_cons_succ] at M'); replace M := Lib.hid M'; clear M') | (refine Mine.wp_setall M.out rfl 49 _ _ rfl rfl 0 rfl rfl _ rfl (by rw [hzx, HL2.out]) (Root.R_one HW2.out) (by rw [HL2.out]; kernel_rfl) ?_; intro w' M'; (try simp only [Act.put, List.setIfInBounds_toArray, List.set_cons_zero, List.set_cons_succ, List.drop_succ_cons, List.drop_zero, List.take_succ_cons, List.take_zero, putAt, ints_set, ints_push, List.getElem_toArray, List.getElem_cons_zero, List.getElem_cons_succ] at M'); replace M := Lib.hid M'; clear M')))
  by_cases c1 : X = Y
  rotate_left
  · have b1 : (X != Y) = true := by simp [c1]
    have HZ : Hid (dec ((rkeys x).T i j) = decide (X < Y)) := dec_is (by rw [HT.out]; unfold ltR; rw [← HX.out, ← HY.out]; omega)
    clear c1
    refine Mine.region_quiet M.out (by kernel_rfl) (by kernel_rfl) ?_
    repeat (first | go_big_quiet_skip | (go_big_quiet_want; first | (refine Mine.oq_getall 49 _ rfl 1 rfl rfl _ Try.underlying49 (by rfl) (by rw [List.size_toArray, HL1.out]; kernel_rfl) ?_; (try simp only [Act.put, List.setIfInBounds_toArray, List.set_cons_zero, List.set_cons_succ, List.drop_succ_cons, List.drop_zero, List.take_succ_cons, List.take_zero, putAt, ints_set, ints_push, List.getElem_toArray, List.getElem_cons_zero, List.getElem_cons_succ]); go_big_quiet_on) | (refine Mine.oq_getall 49 _ rfl 0 rfl rfl _ Try.underlying49 (by rfl) (by rw [List.size_toArray, HL2.out]; kernel_rfl) ?_; (try simp only [Act.put, List.setIfInBounds_toArray, List.set_cons_zero, List.set_cons_succ, List.drop_succ_cons, List.drop_zero, List.take_succ_cons, List.take_zero, putAt, ints_set, ints_push, List.getElem_toArray, List.getElem_cons_zero, List.getElem_cons_succ]); go_big_quiet_on) | (refine Mine.oq_get _ _ rfl 1 _ rfl rfl _ (by assumption) _ (by first | exact Try.underlying3) (by rfl) ?_; (try simp only [Act.put, List.setIfInBounds_toArray, List.set_cons_zero, List.set_cons_succ, List.drop_succ_cons, List.drop_zero, List.take_succ_cons, List.take_zero, putAt, ints_set, ints_push, List.getElem_toArray, List.getElem_cons_zero, List.getElem_cons_succ]); go_big_quiet_on) | (refine Mine.oq_get _ _ rfl 0 _ rfl rfl _ (by assumption) _ (by first | exact Try.underlying3) (by rfl) ?_; (try simp only [Act.put, List.setIfInBounds_toArray, List.set_cons_zero, List.set_cons_succ, List.drop_succ_cons, List.drop_zero, List.take_succ_cons, List.take_zero, putAt, ints_set, ints_push, List.getElem_toArray, List.getElem_cons_zero, List.getElem_cons_succ]); go_big_quiet_on) | (unfold Oper.quiet; apply Exists.intro; refine ⟨fun wq hq => ?_, ?_⟩; (go_simp; go_at_call 13; (with_reducible refine (spec_StampOf r row1 _ _ (Root.R_good.ext HW1.out hq.ext)).mono ?_); rintro e w2 ⟨rfl, x2⟩; exact ⟨rfl, hq.on x2⟩); (try simp only [Act.put, List.setIfInBounds_toArray, List.set_cons_succ, List.set_cons_zero]); go_big_quiet_on) | (unfold Oper.quiet; apply Exists.intro; refine ⟨fun wq hq => ?_, ?_⟩; (go_simp; go_at_call 13; (with_reducible refine (spec_StampOf s row2 _ _ (Root.R_good.ext HW2.out hq.ext)).mono ?_); rintro e w2 ⟨rfl, x2⟩; exact ⟨rfl, hq.on x2⟩); (try simp only [Act.put, List.setIfInBounds_toArray, List.set_cons_succ, List.set_cons_zero]); go_big_quiet_on) | (unfold Oper.quiet; apply Exists.intro; refine ⟨fun wq hq => ?_, ?_⟩; (clear hq; go_simp; first | done | rfl | exact ⟨rfl, rfl⟩); (try simp only [Act.put, List.setIfInBounds_toArray, List.set_cons_succ, List.set_cons_zero]); go_big_quiet_on)))
    refine wpQuiet_nil ?_
    intro w' M'
    replace M := Lib.hid M'
    clear M'
    try rw [← HX.out]
    try rw [← HY.out]
    try rw [bp]
    try rw [bq]
    go_wp2
    refine Mine.region_quiet M.out (by kernel_rfl) (by kernel_rfl) ?_
    repeat (first | go_big_quiet_skip | (go_big_quiet_want; first | (refine Mine.oq_getall 49 _ rfl 1 rfl rfl _ Try.underlying49 (by rfl) (by rw [List.size_toArray, HL1.out]; kernel_rfl) ?_; (try simp only [Act.put, List.setIfInBounds_toArray, List.set_cons_zero, List.set_cons_succ, List.drop_succ_cons, List.drop_zero, List.take_succ_cons, List.take_zero, putAt, ints_set, ints_push, List.getElem_toArray, List.getElem_cons_zero, List.getElem_cons_succ]); go_big_quiet_on) | (refine Mine.oq_getall 49 _ rfl 0 rfl rfl _ Try.underlying49 (by rfl) (by rw [List.size_toArray, HL2.out]; kernel_rfl) ?_; (try simp only [Act.put, List.setIfInBounds_toArray, List.set_cons_zero, List.set_cons_succ, List.drop_succ_cons, List.drop_zero, List.take_succ_cons, List.take_zero, putAt, ints_set, ints_push, List.getElem_toArray, List.getElem_cons_zero, List.getElem_cons_succ]); go_big_quiet_on) | (refine Mine.oq_get _ _ rfl 1 _ rfl rfl _ (by assumption) _ (by first | exact Try.underlying3) (by rfl) ?_; (try simp only [Act.put, List.setIfInBounds_toArray, List.set_cons_zero, List.set_cons_succ, List.drop_succ_cons, List.drop_zero, List.take_succ_cons, List.take_zero, putAt, ints_set, ints_push, List.getElem_toArray, List.getElem_cons_zero, List.getElem_cons_succ]); go_big_quiet_on) | (refine Mine.oq_get _ _ rfl 0 _ rfl rfl _ (by assumption) _ (by first | exact Try.underlying3) (by rfl) ?_; (try simp only [Act.put, List.setIfInBounds_toArray, List.set_cons_zero, List.set_cons_succ, List.drop_succ_cons, List.drop_zero, List.take_succ_cons, List.take_zero, putAt, ints_set, ints_push, List.getElem_toArray, List.getElem_cons_zero, List.getElem_cons_succ]); go_big_quiet_on) | (unfold Oper.quiet; apply Exists.intro; refine ⟨fun wq hq => ?_, ?_⟩; (go_simp; go_at_call 13; (with_reducible refine (spec_StampOf r row1 _ _ (Root.R_good.ext HW1.out hq.ext)).mono ?_); rintro e w2 ⟨rfl, x2⟩; exact ⟨rfl, hq.on x2⟩); (try simp only [Act.put, List.setIfInBounds_toArray, List.set_cons_succ, List.set_cons_zero]); go_big_quiet_on) | (unfold Oper.quiet; apply Exists.intro; refine ⟨fun wq hq => ?_, ?_⟩; (go_simp; go_at_call 13; (with_reducible refine (spec_StampOf s row2 _ _ (Root.R_good.ext HW2.out hq.ext)).mono ?_); rintro e w2 ⟨rfl, x2⟩; exact ⟨rfl, hq.on x2⟩); (try simp only [Act.put, List.setIfInBounds_toArray, List.set_cons_succ, List.set_cons_zero]); go_big_quiet_on) | (unfold Oper.quiet; apply Exists.intro; refine ⟨fun wq hq => ?_, ?_⟩; (clear hq; go_simp; first | done | rfl | exact ⟨rfl, rfl⟩); (try simp only [Act.put, List.setIfInBounds_toArray, List.set_cons_succ, List.set_cons_zero]); go_big_quiet_on)))
    refine wpQuiet_nil ?_
    intro w' M'
    replace M := Lib.hid M'
    clear M'
    try rw [← HX.out]
    try rw [← HY.out]
    try rw [bp]
    try rw [bq]
    go_wp2
    go_ret
    exact ⟨by rw [HZ.out]; rfl, M.out.ext⟩
  have b1 : (X != Y) = false := by simp [c1]
  have HXY := Lib.hid c1
  refine Mine.region_quiet M.out (by kernel_rfl) (by kernel_rfl) ?_
  repeat (first | go_big_quiet_skip | (go_big_quiet_want; first | (refine Mine.oq_getall 49 _ rfl 1 rfl rfl _ Try.underlying49 (by rfl) (by rw [List.size_toArray, HL1.out]; kernel_rfl) ?_; (try simp only [Act.put, List.setIfInBounds_toArray, List.set_cons_zero, List.set_cons_succ, List.drop_succ_cons, List.drop_zero, List.take_succ_cons, List.take_zero, putAt, ints_set, ints_push, List.getElem_toArray, List.getElem_cons_zero, List.getElem_cons_succ]); go_big_quiet_on) | (refine Mine.oq_getall 49 _ rfl 0 rfl rfl _ Try.underlying49 (by rfl) (by rw [List.size_toArray, HL2.out]; kernel_rfl) ?_; (try simp only [Act.put, List.setIfInBounds_toArray, List.set_cons_zero, List.set_cons_succ, List.drop_succ_cons, List.drop_zero, List.take_succ_cons, List.take_zero, putAt, ints_set, ints_push, List.getElem_toArray, List.getElem_cons_zero, List.getElem_cons_succ]); go_big_quiet_on) | (refine Mine.oq_get _ _ rfl 1 _ rfl rfl _ (by assumption) _ (by first | exact Try.underlying3) (by rfl) ?_; (try simp only [Act.put, List.setIfInBounds_toArray, List.set_cons_zero, List.set_cons_succ, List.drop_succ_cons, List.drop_zero, List.take_succ_cons, List.take_zero, putAt, ints_set, ints_push, List.getElem_toArray, List.getElem_cons_zero, List.getElem_cons_succ]); go_big_quiet_on) | (refine Mine.oq_get _ _ rfl 0 _ rfl rfl _ (by assumption) _ (by first | exact Try.underlying3) (by rfl) ?_; (try simp only [Act.put, List.setIfInBounds_toArray, List.set_cons_zero, List.set_cons_succ, List.drop_succ_cons, List.drop_zero, List.take_succ_cons, List.take_zero, putAt, ints_set, ints_push, List.getElem_toArray, List.getElem_cons_zero, List.getElem_cons_succ]); go_big_quiet_on) | (unfold Oper.quiet; apply Exists.intro; refine ⟨fun wq hq => ?_, ?_⟩; (go_simp; go_at_call 13; (with_reducible refine (spec_StampOf r row1 _ _ (Root.R_good.ext HW1.out hq.ext)).mono ?_); rintro e w2 ⟨rfl, x2⟩; exact ⟨rfl, hq.on x2⟩); (try simp only [Act.put, List.setIfInBounds_toArray, List.set_cons_succ, List.set_cons_zero]); go_big_quiet_on) | (unfold Oper.quiet; apply Exists.intro; refine ⟨fun wq hq => ?_, ?_⟩; (go_simp; go_at_call 13; (with_reducible refine (spec_StampOf s row2 _ _ (Root.R_good.ext HW2.out hq.ext)).mono ?_); rintro e w2 ⟨rfl, x2⟩; exact ⟨rfl, hq.on x2⟩); (try simp only [Act.put, List.setIfInBounds_toArray, List.set_cons_succ, List.set_cons_zero]); go_big_quiet_on) | (unfold Oper.quiet; apply Exists.intro; refine ⟨fun wq hq => ?_, ?_⟩; (clear hq; go_simp; first | done | rfl | exact ⟨rfl, rfl⟩); (try simp only [Act.put, List.setIfInBounds_toArray, List.set_cons_succ, List.set_cons_zero]); go_big_quiet_on)))
  refine wpQuiet_nil ?_
  intro w' M'
  replace M := Lib.hid M'
  clear M'
  try rw [← HX.out]
  try rw [← HY.out]
  try rw [bp]
  try rw [bq]
  go_wp2
  by_cases p : X = r.rv_
  · by_cases q : Y = s.rv_
    · skip
      have bp : (X == r.rv_) = true := by simp [p]
      have bq : (Y == s.rv_) = true := by simp [q]
      have bpq : (!((X == r.rv_) == (Y == s.rv_))) = false := by rw [bp, bq]; rfl
      have bpq2 : ((X == r.rv_) != (Y == s.rv_)) = false := by rw [bp, bq]; rfl
      have HPQ : Hid (X = r.rv_ ↔ Y = s.rv_) := by show _ ↔ _; exact ⟨fun h => by first | exact q | exact absurd h p, fun h => by first | exact p | exact absurd h q⟩
      by_cases e1 : r.ended_ = s.ended_
      rotate_left
      · have be : (r.ended_ != s.ended_) = true := by simp [e1]
        have HZ : Hid (dec ((rkeys x).T i j) = decide (r.ended_ < s.ended_)) := dec_is (by rw [HT.out]; unfold ltR; rw [← HX.out, ← HY.out]; have h1 := HPQ.out; have h2 := HXY.out; omega)
        refine Mine.region_quiet M.out (by kernel_rfl) (by kernel_rfl) ?_
        repeat (first | go_big_quiet_skip | (go_big_quiet_want; first | (refine Mine.oq_getall 49 _ rfl 1 rfl rfl _ Try.underlying49 (by rfl) (by rw [List.size_toArray, HL1.out]; kernel_rfl) ?_; (try simp only [Act.put, List.setIfInBounds_toArray, List.set_cons_zero, List.set_cons_succ, List.drop_succ_cons, List.drop_zero, List.take_succ_cons, List.take_zero, putAt, ints_set, ints_push, List.getElem_toArray, List.getElem_cons_zero, List.getElem_cons_succ]); go_big_quiet_on) | (refine Mine.oq_getall 49 _ rfl 0 rfl rfl _ Try.underlying49 (by rfl) (by rw [List.size_toArray, HL2.out]; kernel_rfl) ?_; (try simp only [Act.put, List.setIfInBounds_toArray, List.set_cons_zero, List.set_cons_succ, List.drop_succ_cons, List.drop_zero, List.take_succ_cons, List.take_zero, putAt, ints_set, ints_push, List.getElem_toArray, List.getElem_cons_zero, List.getElem_cons_succ]); go_big_quiet_on) | (refine Mine.oq_get _ _ rfl 1 _ rfl rfl _ (by assumption) _ (by first | exact Try.underlying3) (by rfl) ?_; (try simp only [Act.put, List.setIfInBounds_toArray, List.set_cons_zero, List.set_cons_succ, List.drop_succ_cons, List.drop_zero, List.take_succ_cons, List.take_zero, putAt, ints_set, ints_push, List.getElem_toArray, List.getElem_cons_zero, List.getElem_cons_succ]); go_big_quiet_on) | (refine Mine.oq_get _ _ rfl 0 _ rfl rfl _ (by assumption) _ (by first | exact Try.underlying3) (by rfl) ?_; (try simp only [Act.put, List.setIfInBounds_toArray, List.set_cons_zero, List.set_cons_succ, List.drop_succ_cons, List.drop_zero, List.take_succ_cons, List.take_zero, putAt, ints_set, ints_push, List.getElem_toArray, List.getElem_cons_zero, List.getElem_cons_succ]); go_big_quiet_on) | (unfold Oper.quiet; apply Exists.intro; refine ⟨fun wq hq => ?_, ?_⟩; (go_simp; go_at_call 13; (with_reducible refine (spec_StampOf r row1 _ _ (Root.R_good.ext HW1.out hq.ext)).mono ?_); rintro e w2 ⟨rfl, x2⟩; exact ⟨rfl, hq.on x2⟩); (try simp only [Act.put, List.setIfInBounds_toArray, List.set_cons_succ, List.set_cons_zero]); go_big_quiet_on) | (unfold Oper.quiet; apply Exists.intro; refine ⟨fun wq hq => ?_, ?_⟩; (go_simp; go_at_call 13; (with_reducible refine (spec_StampOf s row2 _ _ (Root.R_good.ext HW2.out hq.ext)).mono ?_); rintro e w2 ⟨rfl, x2⟩; exact ⟨rfl, hq.on x2⟩); (try simp only [Act.put, List.setIfInBounds_toArray, List.set_cons_succ, List.set_cons_zero]); go_big_quiet_on) | (unfold Oper.quiet; apply Exists.intro; refine ⟨fun wq hq => ?_, ?_⟩; (clear hq; go_simp; first | done | rfl | exact ⟨rfl, rfl⟩); (try simp only [Act.put, List.setIfInBounds_toArray, List.set_cons_succ, List.set_cons_zero]); go_big_quiet_on)))
        refine wpQuiet_nil ?_
        intro w' M'
        replace M := Lib.hid M'
        clear M'
        try rw [← HX.out]
        try rw [← HY.out]
        try rw [bp]
        try rw [bq]
        clear p q c1 e1
        go_wp2_with (first | ((with_reducible show wpList _ _ _ (⟨_, _, _, _, _, none⟩ :: _) _ _); first | (refine Mine.wp_get M.out rfl _ _ rfl 1 _ rfl rfl _ (by assumption) _ (by first | exact Try.underlying3) (by rfl) ?_; (try simp only [Act.put, List.setIfInBounds_toArray, List.set_cons_zero, List.set_cons_succ, List.drop_succ_cons, List.drop_zero, List.take_succ_cons, List.take_zero, putAt, ints_set, ints_push, List.getElem_toArray, List.getElem_cons_zero, List.getElem_cons_succ])) | (refine Mine.wp_get M.out rfl _ _ rfl 0 _ rfl rfl _ (by assumption) _ (by first | exact Try.underlying3) (by rfl) ?_; (try simp only [Act.put, List.setIfInBounds_toArray, List.set_cons_zero, List.set_cons_succ, List.drop_succ_cons, List.drop_zero, List.take_succ_cons, List.take_zero, putAt, ints_set, ints_push, List.getElem_toArray, List.getElem_cons_zero, List.getElem_cons_succ]))))
        go_ret
        exact ⟨by rw [HZ.out]; rfl, M.out.ext⟩
      have be : (r.ended_ != s.ended_) = false := by simp [e1]
      have HZ : Hid (dec ((rkeys x).T i j) = decide ((i : Int) < j)) := dec_is (by rw [HT.out]; unfold ltR; rw [← HX.out, ← HY.out]; have h1 := HPQ.out; have h2 := HXY.out; omega)
      refine Mine.region_quiet M.out (by kernel_rfl) (by kernel_rfl) ?_
      repeat (first | go_big_quiet_skip | (go_big_quiet_want; first | (refine Mine.oq_getall 49 _ rfl 1 rfl rfl _ Try.underlying49 (by rfl) (by rw [List.size_toArray, HL1.out]; kernel_rfl) ?_; (try simp only [Act.put, List.setIfInBounds_toArray, List.set_cons_zero, List.set_cons_succ, List.drop_succ_cons, List.drop_zero, List.take_succ_cons, List.take_zero, putAt, ints_set, ints_push, List.getElem_toArray, List.getElem_cons_zero, List.getElem_cons_succ]); go_big_quiet_on) | (refine Mine.oq_getall 49 _ rfl 0 rfl rfl _ Try.underlying49 (by rfl) (by rw [List.size_toArray, HL2.out]; kernel_rfl) ?_; (try simp only [Act.put, List.setIfInBounds_toArray, List.set_cons_zero, List.set_cons_succ, List.drop_succ_cons, List.drop_zero, List.take_succ_cons, List.take_zero, putAt, ints_set, ints_push, List.getElem_toArray, List.getElem_cons_zero, List.getElem_cons_succ]); go_big_quiet_on) | (refine Mine.oq_get _ _ rfl 1 _ rfl rfl _ (by assumption) _ (by first | exact Try.underlying3) (by rfl) ?_; (try simp only [Act.put, List.setIfInBounds_toArray, List.set_cons_zero, List.set_cons_succ, List.drop_succ_cons, List.drop_zero, List.take_succ_cons, List.take_zero, putAt, ints_set, ints_push, List.getElem_toArray, List.getElem_cons_zero, List.getElem_cons_succ]); go_big_quiet_on) | (refine Mine.oq_get _ _ rfl 0 _ rfl rfl _ (by assumption) _ (by first | exact Try.underlying3) (by rfl) ?_; (try simp only [Act.put, List.setIfInBounds_toArray, List.set_cons_zero, List.set_cons_succ, List.drop_succ_cons, List.drop_zero, List.take_succ_cons, List.take_zero, putAt, ints_set, ints_push, List.getElem_toArray, List.getElem_cons_zero, List.getElem_cons_succ]); go_big_quiet_on) | (unfold Oper.quiet; apply Exists.intro; refine ⟨fun wq hq => ?_, ?_⟩; (go_simp; go_at_call 13; (with_reducible refine (spec_StampOf r row1 _ _ (Root.R_good.ext HW1.out hq.ext)).mono ?_); rintro e w2 ⟨rfl, x2⟩; exact ⟨rfl, hq.on x2⟩); (try simp only [Act.put, List.setIfInBounds_toArray, List.set_cons_succ, List.set_cons_zero]); go_big_quiet_on) | (unfold Oper.quiet; apply Exists.intro; refine ⟨fun wq hq => ?_, ?_⟩; (go_simp; go_at_call 13; (with_reducible refine (spec_StampOf s row2 _ _ (Root.R_good.ext HW2.out hq.ext)).mono ?_); rintro e w2 ⟨rfl, x2⟩; exact ⟨rfl, hq.on x2⟩); (try simp only [Act.put, List.setIfInBounds_toArray, List.set_cons_succ, List.set_cons_zero]); go_big_quiet_on) | (unfold Oper.quiet; apply Exists.intro; refine ⟨fun wq hq => ?_, ?_⟩; (clear hq; go_simp; first | done | rfl | exact ⟨rfl, rfl⟩); (try simp only [Act.put, List.setIfInBounds_toArray, List.set_cons_succ, List.set_cons_zero]); go_big_quiet_on)))
      refine wpQuiet_nil ?_
      intro w' M'
      replace M := Lib.hid M'
      clear M'
      try rw [← HX.out]
      try rw [← HY.out]
      try rw [bp]
      try rw [bq]
      clear p q c1 e1
      go_wp2_with (first | ((with_reducible show wpList _ _ _ (⟨_, _, _, _, _, none⟩ :: _) _ _); first | (refine Mine.wp_get M.out rfl _ _ rfl 1 _ rfl rfl _ (by assumption) _ (by first | exact Try.underlying3) (by rfl) ?_; (try simp only [Act.put, List.setIfInBounds_toArray, List.set_cons_zero, List.set_cons_succ, List.drop_succ_cons, List.drop_zero, List.take_succ_cons, List.take_zero, putAt, ints_set, ints_push, List.getElem_toArray, List.getElem_cons_zero, List.getElem_cons_succ])) | (refine Mine.wp_get M.out rfl _ _ rfl 0 _ rfl rfl _ (by assumption) _ (by first | exact Try.underlying3) (by rfl) ?_; (try simp only [Act.put, List.setIfInBounds_toArray, List.set_cons_zero, List.set_cons_succ, List.drop_succ_cons, List.drop_zero, List.take_succ_cons, List.take_zero, putAt, ints_set, ints_push, List.getElem_toArray, List.getElem_cons_zero, List.getElem_cons_succ]))))
      go_ret
      exact ⟨by rw [HZ.out]; first | rfl | simp, M.out.ext⟩
    have bp : (X == r.rv_) = true := by simp [p]
    have bq : (Y == s.rv_) = false := by simp [q]
    have bpq : (!((X == r.rv_) == (Y == s.rv_))) = true := by rw [bp, bq]; rfl
    have bpq2 : ((X == r.rv_) != (Y == s.rv_)) = true := by rw [bp, bq]; rfl
    have HZ : Hid (dec ((rkeys x).T i j) = false) := by show _ = _; exact dec_no (by rw [HT.out]; unfold ltR; rw [← HX.out, ← HY.out]; omega)
    refine Mine.region_quiet M.out (by kernel_rfl) (by kernel_rfl) ?_
    repeat (first | go_big_quiet_skip | (go_big_quiet_want; first | (refine Mine.oq_getall 49 _ rfl 1 rfl rfl _ Try.underlying49 (by rfl) (by rw [List.size_toArray, HL1.out]; kernel_rfl) ?_; (try simp only [Act.put, List.setIfInBounds_toArray, List.set_cons_zero, List.set_cons_succ, List.drop_succ_cons, List.drop_zero, List.take_succ_cons, List.take_zero, putAt, ints_set, ints_push, List.getElem_toArray, List.getElem_cons_zero, List.getElem_cons_succ]); go_big_quiet_on) | (refine Mine.oq_getall 49 _ rfl 0 rfl rfl _ Try.underlying49 (by rfl) (by rw [List.size_toArray, HL2.out]; kernel_rfl) ?_; (try simp only [Act.put, List.setIfInBounds_toArray, List.set_cons_zero, List.set_cons_succ, List.drop_succ_cons, List.drop_zero, List.take_succ_cons, List.take_zero, putAt, ints_set, ints_push, List.getElem_toArray, List.getElem_cons_zero, List.getElem_cons_succ]); go_big_quiet_on) | (refine Mine.oq_get _ _ rfl 1 _ rfl rfl _ (by assumption) _ (by first | exact Try.underlying3) (by rfl) ?_; (try simp only [Act.put, List.setIfInBounds_toArray, List.set_cons_zero, List.set_cons_succ, List.drop_succ_cons, List.drop_zero, List.take_succ_cons, List.take_zero, putAt, ints_set, ints_push, List.getElem_toArray, List.getElem_cons_zero, List.getElem_cons_succ]); go_big_quiet_on) | (refine Mine.oq_get _ _ rfl 0 _ rfl rfl _ (by assumption) _ (by first | exact Try.underlying3) (by rfl) ?_; (try simp only [Act.put, List.setIfInBounds_toArray, List.set_cons_zero, List.set_cons_succ, List.drop_succ_cons, List.drop_zero, List.take_succ_cons, List.take_zero, putAt, ints_set, ints_push, List.getElem_toArray, List.getElem_cons_zero, List.getElem_cons_succ]); go_big_quiet_on) | (unfold Oper.quiet; apply Exists.intro; refine ⟨fun wq hq => ?_, ?_⟩; (go_simp; go_at_call 13; (with_reducible refine (spec_StampOf r row1 _ _ (Root.R_good.ext HW1.out hq.ext)).mono ?_); rintro e w2 ⟨rfl, x2⟩; exact ⟨rfl, hq.on x2⟩); (try simp only [Act.put, List.setIfInBounds_toArray, List.set_cons_succ, List.set_cons_zero]); go_big_quiet_on) | (unfold Oper.quiet; apply Exists.intro; refine ⟨fun wq hq => ?_, ?_⟩; (go_simp; go_at_call 13; (with_reducible refine (spec_StampOf s row2 _ _ (Root.R_good.ext HW2.out hq.ext)).mono ?_); rintro e w2 ⟨rfl, x2⟩; exact ⟨rfl, hq.on x2⟩); (try simp only [Act.put, List.setIfInBounds_toArray, List.set_cons_succ, List.set_cons_zero]); go_big_quiet_on) | (unfold Oper.quiet; apply Exists.intro; refine ⟨fun wq hq => ?_, ?_⟩; (clear hq; go_simp; first | done | rfl | exact ⟨rfl, rfl⟩); (try simp only [Act.put, List.setIfInBounds_toArray, List.set_cons_succ, List.set_cons_zero]); go_big_quiet_on)))
    refine wpQuiet_nil ?_
    intro w' M'
    replace M := Lib.hid M'
    clear M'
    try rw [← HX.out]
    try rw [← HY.out]
    try rw [bp]
    try rw [bq]
    clear p q c1
    go_wp2
    refine Mine.region_quiet M.out (by kernel_rfl) (by kernel_rfl) ?_
    repeat (first | go_big_quiet_skip | (go_big_quiet_want; first | (refine Mine.oq_getall 49 _ rfl 1 rfl rfl _ Try.underlying49 (by rfl) (by rw [List.size_toArray, HL1.out]; kernel_rfl) ?_; (try simp only [Act.put, List.setIfInBounds_toArray, List.set_cons_zero, List.set_cons_succ, List.drop_succ_cons, List.drop_zero, List.take_succ_cons, List.take_zero, putAt, ints_set, ints_push, List.getElem_toArray, List.getElem_cons_zero, List.getElem_cons_succ]); go_big_quiet_on) | (refine Mine.oq_getall 49 _ rfl 0 rfl rfl _ Try.underlying49 (by rfl) (by rw [List.size_toArray, HL2.out]; kernel_rfl) ?_; (try simp only [Act.put, List.setIfInBounds_toArray, List.set_cons_zero, List.set_cons_succ, List.drop_succ_cons, List.drop_zero, List.take_succ_cons, List.take_zero, putAt, ints_set, ints_push, List.getElem_toArray, List.getElem_cons_zero, List.getElem_cons_succ]); go_big_quiet_on) | (refine Mine.oq_get _ _ rfl 1 _ rfl rfl _ (by assumption) _ (by first | exact Try.underlying3) (by rfl) ?_; (try simp only [Act.put, List.setIfInBounds_toArray, List.set_cons_zero, List.set_cons_succ, List.drop_succ_cons, List.drop_zero, List.take_succ_cons, List.take_zero, putAt, ints_set, ints_push, List.getElem_toArray, List.getElem_cons_zero, List.getElem_cons_succ]); go_big_quiet_on) | (refine Mine.oq_get _ _ rfl 0 _ rfl rfl _ (by assumption) _ (by first | exact Try.underlying3) (by rfl) ?_; (try simp only [Act.put, List.setIfInBounds_toArray, List.set_cons_zero, List.set_cons_succ, List.drop_succ_cons, List.drop_zero, List.take_succ_cons, List.take_zero, putAt, ints_set, ints_push, List.getElem_toArray, List.getElem_cons_zero, List.getElem_cons_succ]); go_big_quiet_on) | (unfold Oper.quiet; apply Exists.intro; refine ⟨fun wq hq => ?_, ?_⟩; (go_simp; go_at_call 13; (with_reducible refine (spec_StampOf r row1 _ _ (Root.R_good.ext HW1.out hq.ext)).mono ?_); rintro e w2 ⟨rfl, x2⟩; exact ⟨rfl, hq.on x2⟩); (try simp only [Act.put, List.setIfInBounds_toArray, List.set_cons_succ, List.set_cons_zero]); go_big_quiet_on) | (unfold Oper.quiet; apply Exists.intro; refine ⟨fun wq hq => ?_, ?_⟩; (go_simp; go_at_call 13; (with_reducible refine (spec_StampOf s row2 _ _ (Root.R_good.ext HW2.out hq.ext)).mono ?_); rintro e w2 ⟨rfl, x2⟩; exact ⟨rfl, hq.on x2⟩); (try simp only [Act.put, List.setIfInBounds_toArray, List.set_cons_succ, List.set_cons_zero]); go_big_quiet_on) | (unfold Oper.quiet; apply Exists.intro; refine ⟨fun wq hq => ?_, ?_⟩; (clear hq; go_simp; first | done | rfl | exact ⟨rfl, rfl⟩); (try simp only [Act.put, List.setIfInBounds_toArray, List.set_cons_succ, List.set_cons_zero]); go_big_quiet_on)))
    refine wpQuiet_nil ?_
    intro w' M'
    replace M := Lib.hid M'
    clear M'
    try rw [← HX.out]
    try rw [← HY.out]
    try rw [bp]
    try rw [bq]
    go_wp2
    go_ret
    exact ⟨by rw [HZ.out]; first | rfl | rw [bq], M.out.ext⟩
  by_cases q : Y = s.rv_
  · skip
    have bp : (X == r.rv_) = false := by simp [p]
    have bq : (Y == s.rv_) = true := by simp [q]
    have bpq : (!((X == r.rv_) == (Y == s.rv_))) = true := by rw [bp, bq]; rfl
    have bpq2 : ((X == r.rv_) != (Y == s.rv_)) = true := by rw [bp, bq]; rfl
    have HZ : Hid (dec ((rkeys x).T i j) = true) := by show _ = _; exact dec_yes (by rw [HT.out]; unfold ltR; rw [← HX.out, ← HY.out]; omega)
    refine Mine.region_quiet M.out (by kernel_rfl) (by kernel_rfl) ?_
    repeat (first | go_big_quiet_skip | (go_big_quiet_want; first | (refine Mine.oq_getall 49 _ rfl 1 rfl rfl _ Try.underlying49 (by rfl) (by rw [List.size_toArray, HL1.out]; kernel_rfl) ?_; (try simp only [Act.put, List.setIfInBounds_toArray, List.set_cons_zero, List.set_cons_succ, List.drop_succ_cons, List.drop_zero, List.take_succ_cons, List.take_zero, putAt, ints_set, ints_push, List.getElem_toArray, List.getElem_cons_zero, List.getElem_cons_succ]); go_big_quiet_on) | (refine Mine.oq_getall 49 _ rfl 0 rfl rfl _ Try.underlying49 (by rfl) (by rw [List.size_toArray, HL2.out]; kernel_rfl) ?_; (try simp only [Act.put, List.setIfInBounds_toArray, List.set_cons_zero, List.set_cons_succ, List.drop_succ_cons, List.drop_zero, List.take_succ_cons, List.take_zero, putAt, ints_set, ints_push, List.getElem_toArray, List.getElem_cons_zero, List.getElem_cons_succ]); go_big_quiet_on) | (refine Mine.oq_get _ _ rfl 1 _ rfl rfl _ (by assumption) _ (by first | exact Try.underlying3) (by rfl) ?_; (try simp only [Act.put, List.setIfInBounds_toArray, List.set_cons_zero, List.set_cons_succ, List.drop_succ_cons, List.drop_zero, List.take_succ_cons, List.take_zero, putAt, ints_set, ints_push, List.getElem_toArray, List.getElem_cons_zero, List.getElem_cons_succ]); go_big_quiet_on) | (refine Mine.oq_get _ _ rfl 0 _ rfl rfl _ (by assumption) _ (by first | exact Try.underlying3) (by rfl) ?_; (try simp only [Act.put, List.setIfInBounds_toArray, List.set_cons_zero, List.set_cons_succ, List.drop_succ_cons, List.drop_zero, List.take_succ_cons, List.take_zero, putAt, ints_set, ints_push, List.getElem_toArray, List.getElem_cons_zero, List.getElem_cons_succ]); go_big_quiet_on) | (unfold Oper.quiet; apply Exists.intro; refine ⟨fun wq hq => ?_, ?_⟩; (go_simp; go_at_call 13; (with_reducible refine (spec_StampOf r row1 _ _ (Root.R_good.ext HW1.out hq.ext)).mono ?_); rintro e w2 ⟨rfl, x2⟩; exact ⟨rfl, hq.on x2⟩); (try simp only [Act.put, List.setIfInBounds_toArray, List.set_cons_succ, List.set_cons_zero]); go_big_quiet_on) | (unfold Oper.quiet; apply Exists.intro; refine ⟨fun wq hq => ?_, ?_⟩; (go_simp; go_at_call 13; (with_reducible refine (spec_StampOf s row2 _ _ (Root.R_good.ext HW2.out hq.ext)).mono ?_); rintro e w2 ⟨rfl, x2⟩; exact ⟨rfl, hq.on x2⟩); (try simp only [Act.put, List.setIfInBounds_toArray, List.set_cons_succ, List.set_cons_zero]); go_big_quiet_on) | (unfold Oper.quiet; apply Exists.intro; refine ⟨fun wq hq => ?_, ?_⟩; (clear hq; go_simp; first | done | rfl | exact ⟨rfl, rfl⟩); (try simp only [Act.put, List.setIfInBounds_toArray, List.set_cons_succ, List.set_cons_zero]); go_big_quiet_on)))
    refine wpQuiet_nil ?_
    intro w' M'
    replace M := Lib.hid M'
    clear M'
    try rw [← HX.out]
    try rw [← HY.out]
    try rw [bp]
    try rw [bq]
    clear p q c1
    go_wp2
    refine Mine.region_quiet M.out (by kernel_rfl) (by kernel_rfl) ?_
    repeat (first | go_big_quiet_skip | (go_big_quiet_want; first | (refine Mine.oq_getall 49 _ rfl 1 rfl rfl _ Try.underlying49 (by rfl) (by rw [List.size_toArray, HL1.out]; kernel_rfl) ?_; (try simp only [Act.put, List.setIfInBounds_toArray, List.set_cons_zero, List.set_cons_succ, List.drop_succ_cons, List.drop_zero, List.take_succ_cons, List.take_zero, putAt, ints_set, ints_push, List.getElem_toArray, List.getElem_cons_zero, List.getElem_cons_succ]); go_big_quiet_on) | (refine Mine.oq_getall 49 _ rfl 0 rfl rfl _ Try.underlying49 (by rfl) (by rw [List.size_toArray, HL2.out]; kernel_rfl) ?_; (try simp only [Act.put, List.setIfInBounds_toArray, List.set_cons_zero, List.set_cons_succ, List.drop_succ_cons, List.drop_zero, List.take_succ_cons, List.take_zero, putAt, ints_set, ints_push, List.getElem_toArray, List.getElem_cons_zero, List.getElem_cons_succ]); go_big_quiet_on) | (refine Mine.oq_get _ _ rfl 1 _ rfl rfl _ (by assumption) _ (by first | exact Try.underlying3) (by rfl) ?_; (try simp only [Act.put, List.setIfInBounds_toArray, List.set_cons_zero, List.set_cons_succ, List.drop_succ_cons, List.drop_zero, List.take_succ_cons, List.take_zero, putAt, ints_set, ints_push, List.getElem_toArray, List.getElem_cons_zero, List.getElem_cons_succ]); go_big_quiet_on) | (refine Mine.oq_get _ _ rfl 0 _ rfl rfl _ (by assumption) _ (by first | exact Try.underlying3) (by rfl) ?_; (try simp only [Act.put, List.setIfInBounds_toArray, List.set_cons_zero, List.set_cons_succ, List.drop_succ_cons, List.drop_zero, List.take_succ_cons, List.take_zero, putAt, ints_set, ints_push, List.getElem_toArray, List.getElem_cons_zero, List.getElem_cons_succ]); go_big_quiet_on) | (unfold Oper.quiet; apply Exists.intro; refine ⟨fun wq hq => ?_, ?_⟩; (go_simp; go_at_call 13; (with_reducible refine (spec_StampOf r row1 _ _ (Root.R_good.ext HW1.out hq.ext)).mono ?_); rintro e w2 ⟨rfl, x2⟩; exact ⟨rfl, hq.on x2⟩); (try simp only [Act.put, List.setIfInBounds_toArray, List.set_cons_succ, List.set_cons_zero]); go_big_quiet_on) | (unfold Oper.quiet; apply Exists.intro; refine ⟨fun wq hq => ?_, ?_⟩; (go_simp; go_at_call 13; (with_reducible refine (spec_StampOf s row2 _ _ (Root.R_good.ext HW2.out hq.ext)).mono ?_); rintro e w2 ⟨rfl, x2⟩; exact ⟨rfl, hq.on x2⟩); (try simp only [Act.put, List.setIfInBounds_toArray, List.set_cons_succ, List.set_cons_zero]); go_big_quiet_on) | (unfold Oper.quiet; apply Exists.intro; refine ⟨fun wq hq => ?_, ?_⟩; (clear hq; go_simp; first | done | rfl | exact ⟨rfl, rfl⟩); (try simp only [Act.put, List.setIfInBounds_toArray, List.set_cons_succ, List.set_cons_zero]); go_big_quiet_on)))
    refine wpQuiet_nil ?_
    intro w' M'
    replace M := Lib.hid M'
    clear M'
    try rw [← HX.out]
    try rw [← HY.out]
    try rw [bp]
    try rw [bq]
    go_wp2
    go_ret
    exact ⟨by rw [HZ.out]; first | rfl | rw [bq], M.out.ext⟩
  have bp : (X == r.rv_) = false := by simp [p]
  have bq : (Y == s.rv_) = false := by simp [q]
  have bpq : (!((X == r.rv_) == (Y == s.rv_))) = false := by rw [bp, bq]; rfl
  have bpq2 : ((X == r.rv_) != (Y == s.rv_)) = false := by rw [bp, bq]; rfl
  have HPQ : Hid (X = r.rv_ ↔ Y = s.rv_) := by show _ ↔ _; exact ⟨fun h => by first | exact q | exact absurd h p, fun h => by first | exact p | exact absurd h q⟩
  by_cases e1 : r.ended_ = s.ended_
  rotate_left
  · have be : (r.ended_ != s.ended_) = true := by simp [e1]
    have HZ : Hid (dec ((rkeys x).T i j) = decide (r.ended_ < s.ended_)) := dec_is (by rw [HT.out]; unfold ltR; rw [← HX.out, ← HY.out]; have h1 := HPQ.out; have h2 := HXY.out; omega)
    refine Mine.region_quiet M.out (by kernel_rfl) (by kernel_rfl) ?_
    repeat (first | go_big_quiet_skip | (go_big_quiet_want; first | (refine Mine.oq_getall 49 _ rfl 1 rfl rfl _ Try.underlying49 (by rfl) (by rw [List.size_toArray, HL1.out]; kernel_rfl) ?_; (try simp only [Act.put, List.setIfInBounds_toArray, List.set_cons_zero, List.set_cons_succ, List.drop_succ_cons, List.drop_zero, List.take_succ_cons, List.take_zero, putAt, ints_set, ints_push, List.getElem_toArray, List.getElem_cons_zero, List.getElem_cons_succ]); go_big_quiet_on) | (refine Mine.oq_getall 49 _ rfl 0 rfl rfl _ Try.underlying49 (by rfl) (by rw [List.size_toArray, HL2.out]; kernel_rfl) ?_; (try simp only [Act.put, List.setIfInBounds_toArray, List.set_cons_zero, List.set_cons_succ, List.drop_succ_cons, List.drop_zero, List.take_succ_cons, List.take_zero, putAt, ints_set, ints_push, List.getElem_toArray, List.getElem_cons_zero, List.getElem_cons_succ]); go_big_quiet_on) | (refine Mine.oq_get _ _ rfl 1 _ rfl rfl _ (by assumption) _ (by first | exact Try.underlying3) (by rfl) ?_; (try simp only [Act.put, List.setIfInBounds_toArray, List.set_cons_zero, List.set_cons_succ, List.drop_succ_cons, List.drop_zero, List.take_succ_cons, List.take_zero, putAt, ints_set, ints_push, List.getElem_toArray, List.getElem_cons_zero, List.getElem_cons_succ]); go_big_quiet_on) | (refine Mine.oq_get _ _ rfl 0 _ rfl rfl _ (by assumption) _ (by first | exact Try.underlying3) (by rfl) ?_; (try simp only [Act.put, List.setIfInBounds_toArray, List.set_cons_zero, List.set_cons_succ, List.drop_succ_cons, List.drop_zero, List.take_succ_cons, List.take_zero, putAt, ints_set, ints_push, List.getElem_toArray, List.getElem_cons_zero, List.getElem_cons_succ]); go_big_quiet_on) | (unfold Oper.quiet; apply Exists.intro; refine ⟨fun wq hq => ?_, ?_⟩; (go_simp; go_at_call 13; (with_reducible refine (spec_StampOf r row1 _ _ (Root.R_good.ext HW1.out hq.ext)).mono ?_); rintro e w2 ⟨rfl, x2⟩; exact ⟨rfl, hq.on x2⟩); (try simp only [Act.put, List.setIfInBounds_toArray, List.set_cons_succ, List.set_cons_zero]); go_big_quiet_on) | (unfold Oper.quiet; apply Exists.intro; refine ⟨fun wq hq => ?_, ?_⟩; (go_simp; go_at_call 13; (with_reducible refine (spec_StampOf s row2 _ _ (Root.R_good.ext HW2.out hq.ext)).mono ?_); rintro e w2 ⟨rfl, x2⟩; exact ⟨rfl, hq.on x2⟩); (try simp only [Act.put, List.setIfInBounds_toArray, List.set_cons_succ, List.set_cons_zero]); go_big_quiet_on) | (unfold Oper.quiet; apply Exists.intro; refine ⟨fun wq hq => ?_, ?_⟩; (clear hq; go_simp; first | done | rfl | exact ⟨rfl, rfl⟩); (try simp only [Act.put, List.setIfInBounds_toArray, List.set_cons_succ, List.set_cons_zero]); go_big_quiet_on)))
    refine wpQuiet_nil ?_
    intro w' M'
    replace M := Lib.hid M'
    clear M'
    try rw [← HX.out]
    try rw [← HY.out]
    try rw [bp]
    try rw [bq]
    clear p q c1 e1
    go_wp2_with (first | ((with_reducible show wpList _ _ _ (⟨_, _, _, _, _, none⟩ :: _) _ _); first | (refine Mine.wp_get M.out rfl _ _ rfl 1 _ rfl rfl _ (by assumption) _ (by first | exact Try.underlying3) (by rfl) ?_; (try simp only [Act.put, List.setIfInBounds_toArray, List.set_cons_zero, List.set_cons_succ, List.drop_succ_cons, List.drop_zero, List.take_succ_cons, List.take_zero, putAt, ints_set, ints_push, List.getElem_toArray, List.getElem_cons_zero, List.getElem_cons_succ])) | (refine Mine.wp_get M.out rfl _ _ rfl 0 _ rfl rfl _ (by assumption) _ (by first | exact Try.underlying3) (by rfl) ?_; (try simp only [Act.put, List.setIfInBounds_toArray, List.set_cons_zero, List.set_cons_succ, List.drop_succ_cons, List.drop_zero, List.take_succ_cons, List.take_zero, putAt, ints_set, ints_push, List.getElem_toArray, List.getElem_cons_zero, List.getElem_cons_succ]))))
    go_ret
    exact ⟨by rw [HZ.out]; rfl, M.out.ext⟩
  have be : (r.ended_ != s.ended_) = false := by simp [e1]
  have HZ : Hid (dec ((rkeys x).T i j) = decide ((i : Int) < j)) := dec_is (by rw [HT.out]; unfold ltR; rw [← HX.out, ← HY.out]; have h1 := HPQ.out; have h2 := HXY.out; omega)
  refine Mine.region_quiet M.out (by kernel_rfl) (by kernel_rfl) ?_
  repeat (first | go_big_quiet_skip | (go_big_quiet_want; first | (refine Mine.oq_getall 49 _ rfl 1 rfl rfl _ Try.underlying49 (by rfl) (by rw [List.size_toArray, HL1.out]; kernel_rfl) ?_; (try simp only [Act.put, List.setIfInBounds_toArray, List.set_cons_zero, List.set_cons_succ, List.drop_succ_cons, List.drop_zero, List.take_succ_cons, List.take_zero, putAt, ints_set, ints_push, List.getElem_toArray, List.getElem_cons_zero, List.getElem_cons_succ]); go_big_quiet_on) | (refine Mine.oq_getall 49 _ rfl 0 rfl rfl _ Try.underlying49 (by rfl) (by rw [List.size_toArray, HL2.out]; kernel_rfl) ?_; (try simp only [Act.put, List.setIfInBounds_toArray, List.set_cons_zero, List.set_cons_succ, List.drop_succ_cons, List.drop_zero, List.take_succ_cons, List.take_zero, putAt, ints_set, ints_push, List.getElem_toArray, List.getElem_cons_zero, List.getElem_cons_succ]); go_big_quiet_on) | (refine Mine.oq_get _ _ rfl 1 _ rfl rfl _ (by assumption) _ (by first | exact Try.underlying3) (by rfl) ?_; (try simp only [Act.put, List.setIfInBounds_toArray, List.set_cons_zero, List.set_cons_succ, List.drop_succ_cons, List.drop_zero, List.take_succ_cons, List.take_zero, putAt, ints_set, ints_push, List.getElem_toArray, List.getElem_cons_zero, List.getElem_cons_succ]); go_big_quiet_on) | (refine Mine.oq_get _ _ rfl 0 _ rfl rfl _ (by assumption) _ (by first | exact Try.underlying3) (by rfl) ?_; (try simp only [Act.put, List.setIfInBounds_toArray, List.set_cons_zero, List.set_cons_succ, List.drop_succ_cons, List.drop_zero, List.take_succ_cons, List.take_zero, putAt, ints_set, ints_push, List.getElem_toArray, List.getElem_cons_zero, List.getElem_cons_succ]); go_big_quiet_on) | (unfold Oper.quiet; apply Exists.intro; refine ⟨fun wq hq => ?_, ?_⟩; (go_simp; go_at_call 13; (with_reducible refine (spec_StampOf r row1 _ _ (Root.R_good.ext HW1.out hq.ext)).mono ?_); rintro e w2 ⟨rfl, x2⟩; exact ⟨rfl, hq.on x2⟩); (try simp only [Act.put, List.setIfInBounds_toArray, List.set_cons_succ, List.set_cons_zero]); go_big_quiet_on) | (unfold Oper.quiet; apply Exists.intro; refine ⟨fun wq hq => ?_, ?_⟩; (go_simp; go_at_call 13; (with_reducible refine (spec_StampOf s row2 _ _ (Root.R_good.ext HW2.out hq.ext)).mono ?_); rintro e w2 ⟨rfl, x2⟩; exact ⟨rfl, hq.on x2⟩); (try simp only [Act.put, List.setIfInBounds_toArray, List.set_cons_succ, List.set_cons_zero]); go_big_quiet_on) | (unfold Oper.quiet; apply Exists.intro; refine ⟨fun wq hq => ?_, ?_⟩; (clear hq; go_simp; first | done | rfl | exact ⟨rfl, rfl⟩); (try simp only [Act.put, List.setIfInBounds_toArray, List.set_cons_succ, List.set_cons_zero]); go_big_quiet_on)))
  refine wpQuiet_nil ?_
  intro w' M'
  replace M := Lib.hid M'
  clear M'
  try rw [← HX.out]
  try rw [← HY.out]
  try rw [bp]
  try rw [bq]
  clear p q c1 e1
  go_wp2_with (first | ((with_reducible show wpList _ _ _ (⟨_, _, _, _, _, none⟩ :: _) _ _); first | (refine Mine.wp_get M.out rfl _ _ rfl 1 _ rfl rfl _ (by assumption) _ (by first | exact Try.underlying3) (by rfl) ?_; (try simp only [Act.put, List.setIfInBounds_toArray, List.set_cons_zero, List.set_cons_succ, List.drop_succ_cons, List.drop_zero, List.take_succ_cons, List.take_zero, putAt, ints_set, ints_push, List.getElem_toArray, List.getElem_cons_zero, List.getElem_cons_succ])) | (refine Mine.wp_get M.out rfl _ _ rfl 0 _ rfl rfl _ (by assumption) _ (by first | exact Try.underlying3) (by rfl) ?_; (try simp only [Act.put, List.setIfInBounds_toArray, List.set_cons_zero, List.set_cons_succ, List.drop_succ_cons, List.drop_zero, List.take_succ_cons, List.take_zero, putAt, ints_set, ints_push, List.getElem_toArray, List.getElem_cons_zero, List.getElem_cons_succ]))))
  go_ret
  exact ⟨by rw [HZ.out]; first | rfl | simp, M.out.ext⟩
set_option maxRecDepth 8000 in
set_option maxHeartbeats 16000000 in
theorem spec_Ranks2 (x : GWorld) (cs : List Value) (w : World) (S : Nat → Prop) (h : GWorld.R w S cs x) (_hw : GWorld.wt x ≤ 1048576) :
    Calls Try.prog 74 #[.agg cs.toArray] w fun e w' => ∃ g m d, e = .returned (.slice (some ⟨g, 0, none⟩) m d) ∧ w'.ownsRow w.heap.size 3 1 (.slice (some ⟨g, 0, none⟩) m d) m (ints (ranksOf x)) ∧ Ext w w' := by
  obtain ⟨v0, v1, A2, n2, c2, A3, n3, c3, A4, n4, c4, rfl, h0, h1, ⟨kh2, mh2, h2⟩, ⟨kh3, mh3, h3⟩, ⟨kh4, mh4, h4⟩⟩ := h
  obtain ⟨A0, n0, c0, rfl⟩ := Mem.R_cells h0
  obtain ⟨A1, n1, c1, rfl⟩ := Shelf.R_cells h1
  have HR := Lib.hid h3
  have HRN := Lib.hid h3.1
  have hn3 : n3 ≤ 1048576 := by have a := roots_le x _hw; have b := HRN.out; omega
  clear h0 h1 h2 h3 h4
  have M : Hid (Mine w (w.alloc (.cells #[.int .i64 x.now_, .int .i64 x.token_, .int .i64 x.mem_.clock_, .slice A0 n0 c0, .slice A1 n1 c1, .int .i64 x.shelf_.count_, .slice A2 n2 c2, .slice A3 n3 c3, .slice A4 n4 c4] 74)) [.box w.heap.size 74 #[.int .i64 x.now_, .int .i64 x.token_, .int .i64 x.mem_.clock_, .slice A0 n0 c0, .slice A1 n1 c1, .int .i64 x.shelf_.count_, .slice A2 n2 c2, .slice A3 n3 c3, .slice A4 n4 c4]]) := (Mine.refl w).box 74 #[.int .i64 x.now_, .int .i64 x.token_, .int .i64 x.mem_.clock_, .slice A0 n0 c0, .slice A1 n1 c1, .int .i64 x.shelf_.count_, .slice A2 n2 c2, .slice A3 n3 c3, .slice A4 n4 c4]
  skip
  show Calls Try.prog _ #[.agg #[.int .i64 x.now_, .int .i64 x.token_, .int .i64 x.mem_.clock_, .slice A0 n0 c0, .slice A1 n1 c1, .int .i64 x.shelf_.count_, .slice A2 n2 c2, .slice A3 n3 c3, .slice A4 n4 c4]] w _
  go_enter Try.func74, Try.ntmps74
  replace M := Lib.hid (M.out.own (own_emptyI _) ((Ext.refl' _).al _))
  simp only [World.heap_alloc_size] at M
  go_wp2_with (first | ((with_reducible show wpList _ _ _ (⟨_, _, _, _, _, none⟩ :: _) _ _); first | (refine Mine.wp_get M.out rfl _ _ rfl 1 _ rfl rfl _ rfl _ (by first | exact Try.underlying71) (by rfl) ?_; (try simp only [Act.put, List.setIfInBounds_toArray, List.set_cons_zero, List.set_cons_succ, List.drop_succ_cons, List.drop_zero, List.take_succ_cons, List.take_zero, putAt, ints_set, ints_push, List.getElem_toArray, List.getElem_cons_zero, List.getElem_cons_succ]))))
  go_loopw [3, 4] (fun u i wr => ∃ (k m d g : Nat), k ≤ n3 ∧ u = .slice (some ⟨g, 0, none⟩) m d ∧ i = .int .i64 k ∧ Hid (Mine w wr [.row 3 1 (some ⟨g, 0, none⟩) m d (ints (pickTo settledOf x.roots_ k)), .box w.heap.size 74 #[.int .i64 x.now_, .int .i64 x.token_, .int .i64 x.mem_.clock_, .slice A0 n0 c0, .slice A1 n1 c1, .int .i64 x.shelf_.count_, .slice A2 n2 c2, .slice A3 n3 c3, .slice A4 n4 c4]])) (fun _ i _ => n3 - (intOf i).toNat)
  case atStart => exact ⟨0, _, _, _, Nat.zero_le _, rfl, rfl, M⟩
  case round =>
    clear M
    obtain ⟨k, m, d, g, hk, rfl, rfl, M⟩ := hrel
    have hm : m ≤ 1048576 := by have h1 := M.out.len1 0 rfl; rw [ints_length] at h1; have h2 := pick_len settledOf x.roots_ k; omega
    by_cases hlt : (k : Int) < (n3 : Int)
    · have HLT : Hid (k < n3) := by show _ < _; omega
      obtain ⟨b, o, rfl⟩ := HR.out.addr (by omega)
      obtain ⟨r, row, hsk, hrb, hrw, hrl, hrg⟩ := root_at HR.out (k := k) (by omega)
      have HSK := Lib.hid hsk
      have HRW := Lib.hid hrw
      have HRL := Lib.hid hrl
      have HRG := Lib.hid hrg
      have HRB := Lib.hid hrb
      have hf0 := Root.first hrw
      clear hsk hrw hrl hrg hrb
      clear hf0
      go_wp2_with (first | ((with_reducible show wpList _ _ _ (⟨_, _, _, _, _, none⟩ :: _) _ _); first | (refine Mine.wp_get M.out rfl _ _ rfl 1 _ rfl rfl _ rfl _ (by first | exact Try.underlying71) (by rfl) ?_; (try simp only [Act.put, List.setIfInBounds_toArray, List.set_cons_zero, List.set_cons_succ, List.drop_succ_cons, List.drop_zero, List.take_succ_cons, List.take_zero, putAt, ints_set, ints_push, List.getElem_toArray, List.getElem_cons_zero, List.getElem_cons_succ])) | (refine Mine.wp_arg M.out rfl 49 _ rfl _ _ rfl row HRG.out HRB.out _ Try.underlying49 (by rfl) (by rw [HRL.out]; kernel_rfl) ?_; (try simp only [Act.put, List.setIfInBounds_toArray, List.set_cons_zero, List.set_cons_succ, List.drop_succ_cons, List.drop_zero, List.take_succ_cons, List.take_zero, putAt, ints_set, ints_push, List.getElem_toArray, List.getElem_cons_zero, List.getElem_cons_succ]))))
      refine (spec_Settled r row _ _ (Root.R_good.ext HRW.out M.out.ext)).mono ?_
      rintro e w1 ⟨rfl, x1⟩
      replace M := Lib.hid (M.out.on x1)
      clear x1
      cases hv : settledOf r
      · have HN := Lib.hid hv
        clear hv
        go_wp2
        go_roundw
        case rel => exact ⟨k + 1, m, d, g, HLT.out, rfl, by go_num, Lib.hid (by rw [pick_no HSK.out HN.out]; exact M.out)⟩
        case measure => have := HLT.out; simp [intOf]; omega
      have HY := Lib.hid hv
      clear hv
      go_wp2_with (first | (at_builtin; refine Mine.wp_push M.out rfl _ _ 22 rfl 3 _ _ _ Try.underlying22 Try.infoInt rfl (by omega) 0 rfl rfl _ _ rfl rfl rfl (by simp [Value.oneCell']) (by omega) (by unfold maxLen; omega) ?_; intro A2 c2 w' M'; obtain ⟨gp, rfl⟩ := Mine.addr M' 0 rfl (Nat.succ_pos _); (try simp only [Act.put, List.setIfInBounds_toArray, List.set_cons_zero, List.set_cons_succ, List.drop_succ_cons, List.drop_zero, List.take_succ_cons, List.take_zero, putAt, ints_set, ints_push, List.getElem_toArray, List.getElem_cons_zero, List.getElem_cons_succ] at M'); replace M := Lib.hid M'; clear M'))
      go_roundw
      case rel => exact ⟨k + 1, _, _, _, HLT.out, rfl, by go_num, Lib.hid (by rw [pick_yes HSK.out HY.out]; exact M.out)⟩
      case measure => have := HLT.out; simp [intOf]; omega
    have e : Hid (k = x.roots_.length) := by show k = _; have a := HRN.out; omega
    obtain ⟨L, hL⟩ : ∃ L, L = pickTo settledOf x.roots_ x.roots_.length := ⟨_, rfl⟩
    rw [e.out, ← hL] at M
    have HL : Hid (ranksOf x = rankList (rkeys x) L) := by show _ = _; rw [hL]; rfl
    have HND : Hid L.Nodup := by show L.Nodup; rw [hL]; exact (pick_asc _ _ _).imp fun h => by omega
    have HM : Hid (L.length = m) := by show _ = _; have h1 := M.out.len1 0 rfl; rwa [ints_length] at h1
    have HIX : Hid (∀ (q : Nat) (y : Int), L[q]? = some y → ∃ i : Nat, i < n3 ∧ y = (i : Int)) := fun q y h => by obtain ⟨i, r, h1, h2, _⟩ := pick_mem.1 (hL ▸ List.mem_of_getElem? h); exact ⟨i, by have a := HRN.out; omega, h2⟩
    obtain ⟨K, hK⟩ : ∃ K, K = rkeys x := ⟨_, rfl⟩
    rw [← hK] at HL
    have HK := Lib.hid hK
    clear hL hK hk e
    go_wp2_with (first | ((with_reducible show wpList _ _ _ (⟨_, _, _, _, _, none⟩ :: _) _ _); first | (refine Mine.wp_get M.out rfl _ _ rfl 1 _ rfl rfl _ rfl _ (by first | exact Try.underlying71) (by rfl) ?_; (try simp only [Act.put, List.setIfInBounds_toArray, List.set_cons_zero, List.set_cons_succ, List.drop_succ_cons, List.drop_zero, List.take_succ_cons, List.take_zero, putAt, ints_set, ints_push, List.getElem_toArray, List.getElem_cons_zero, List.getElem_cons_succ])) | (refine Mine.wp_make M.out rfl _ _ 22 rfl 3 _ _ _ Try.underlying22 Try.infoInt m rfl rfl (by omega) (by unfold maxLen; omega) ?_; intro gv w' M'; (try simp only [Act.put, List.setIfInBounds_toArray, List.set_cons_zero, List.set_cons_succ, List.drop_succ_cons, List.drop_zero, List.take_succ_cons, List.take_zero, putAt, ints_set, ints_push, List.getElem_toArray, List.getElem_cons_zero, List.getElem_cons_succ] at M'); replace M := Lib.hid M'; clear M'; (try simp only [Act.put, List.setIfInBounds_toArray, List.set_cons_zero, List.set_cons_succ, List.drop_succ_cons, List.drop_zero, List.take_succ_cons, List.take_zero, putAt, ints_set, ints_push, List.getElem_toArray, List.getElem_cons_zero, List.getElem_cons_succ]))))
    rw [show (madeCells (Value.int .i64 0).cells (m * 1)).toList = ints (List.replicate m 0) from by rw [show (madeCells (Value.int .i64 0).cells (m * 1)).toList = List.replicate m (.int .i64 0) from by rw [Nat.mul_one]; exact toList_madeCells_one _ _]; unfold ints; rw [List.map_replicate]] at M
    go_loopw [6] (fun iv wr => ∃ (i : Nat) (O : List Int), i ≤ m ∧ iv = .int .i64 i ∧ Hid (O.length = m) ∧ Hid (∀ (q : Nat) (y : Int), q < i → L[q]? = some y → O[ahead K L y]? = some y) ∧ Hid (Mine w wr [.row 3 1 (some ⟨gv, 0, none⟩) m m (ints O), .row 3 1 (some ⟨g, 0, none⟩) m d (ints L), .box w.heap.size 74 #[.int .i64 x.now_, .int .i64 x.token_, .int .i64 x.mem_.clock_, .slice A0 n0 c0, .slice A1 n1 c1, .int .i64 x.shelf_.count_, .slice A2 n2 c2, .slice A3 n3 c3, .slice A4 n4 c4]])) (fun iv _ => m - (intOf iv).toNat)
    case atStart => exact ⟨0, _, Nat.zero_le _, rfl, List.length_replicate, fun q y hq => absurd hq (Nat.not_lt_zero _), M⟩
    case round =>
      clear M
      obtain ⟨i, O, hi, rfl, HO, HP, M⟩ := hrel
      by_cases hlt : (i : Int) < (m : Int)
      rotate_left
      · have H9 : Hid (O = rankList K L) := placed_all HND.out (by rw [HO.out, HM.out]) (fun q y hq hy => HP.out q y (by have a := HM.out; omega) hy)
        go_wp2
        go_ret
        exact ⟨_, _, _, rfl, by rw [HL.out, ← H9.out]; exact M.out.row_at 0 rfl, M.out.ext⟩
      have HLT : Hid (i < m) := by show _ < _; omega
      obtain ⟨xi, hxi⟩ : ∃ y, L[i]? = some y := ⟨_, List.getElem?_eq_getElem (by have := HLT.out; have := HM.out; omega)⟩
      obtain ⟨i0, hi0, rfl⟩ := HIX.out _ _ hxi
      have HXI := Lib.hid hxi
      have HI0 := Lib.hid hi0
      have gxi : (ints L)[i]? = some (.int .i64 (i0 : Int)) := ints_at hxi
      clear hxi hi0 hlt
      go_wp2
      go_loopw [7, 8] (fun cv kv wr => ∃ (k c : Nat), k ≤ m ∧ cv = .int .i64 c ∧ kv = .int .i64 k ∧ Hid (c = cntTo K L i0 k) ∧ Hid (Mine w wr [.row 3 1 (some ⟨gv, 0, none⟩) m m (ints O), .row 3 1 (some ⟨g, 0, none⟩) m d (ints L), .box w.heap.size 74 #[.int .i64 x.now_, .int .i64 x.token_, .int .i64 x.mem_.clock_, .slice A0 n0 c0, .slice A1 n1 c1, .int .i64 x.shelf_.count_, .slice A2 n2 c2, .slice A3 n3 c3, .slice A4 n4 c4]])) (fun _ kv _ => m - (intOf kv).toNat)
      case atStart => exact ⟨0, 0, Nat.zero_le _, rfl, rfl, rfl, M⟩
      case round =>
        clear M
        obtain ⟨k, c, hk, rfl, rfl, HC, M⟩ := hrel
        have hcm : c ≤ 1048576 := by have h1 := HC.out; have h2 := cnt_le K L i0 k; omega
        by_cases hkl : (k : Int) < (m : Int)
        rotate_left
        · have HA : Hid (c = ahead K L i0) := by show _ = _; rw [HC.out]; exact cnt_all _ _ _ (by have := HM.out; omega)
          have hcl : c < m := by rw [HA.out, ← HM.out]; exact ahead_lt HND.out (List.mem_of_getElem? HXI.out)
          have hcl2 : (c : Int) < (m : Int) := by omega
          have hil : (i : Int) < (m : Int) := by have := HLT.out; omega
          clear hcm
          go_wp2_with (first | ((with_reducible show wpList _ _ _ (⟨_, _, _, _, _, none⟩ :: _) _ _); first | (refine Mine.wp_getr M.out rfl _ _ rfl 1 _ rfl rfl _ (by assumption) _ (by first | exact Try.underlying3) (by rfl) ?_; (try simp only [Act.put, List.setIfInBounds_toArray, List.set_cons_zero, List.set_cons_succ, List.drop_succ_cons, List.drop_zero, List.take_succ_cons, List.take_zero, putAt, ints_set, ints_push, List.getElem_toArray, List.getElem_cons_zero, List.getElem_cons_succ])) | (refine Mine.wp_put M.out rfl _ _ _ rfl rfl 0 _ rfl rfl _ (by (conv => lhs; whnf) <;> rfl) (by omega) (by rfl) (by kernel_rfl) ?_; intro w' M'; (try simp only [Act.put, List.setIfInBounds_toArray, List.set_cons_zero, List.set_cons_succ, List.drop_succ_cons, List.drop_zero, List.take_succ_cons, List.take_zero, putAt, ints_set, ints_push, List.getElem_toArray, List.getElem_cons_zero, List.getElem_cons_succ] at M'); replace M := Lib.hid M'; clear M')))
          go_roundw
          case rel => exact ⟨i + 1, O.set c i0, HLT.out, by go_num, by show _ = _; rw [List.length_set]; exact HO.out, by have a := HA.out; subst a; exact placed_step HND.out (by rw [HO.out, HM.out]) HXI.out HP.out, M⟩
          case measure => have := HLT.out; simp [intOf]; omega
        have HKL : Hid (k < m) := by show _ < _; omega
        have hil : (i : Int) < (m : Int) := by have := HLT.out; omega
        obtain ⟨yk, hyk⟩ : ∃ y, L[k]? = some y := ⟨_, List.getElem?_eq_getElem (by have := HKL.out; have := HM.out; omega)⟩
        obtain ⟨k0, hk0, rfl⟩ := HIX.out _ _ hyk
        have HYK := Lib.hid hyk
        have HK0 := Lib.hid hk0
        have gyk : (ints L)[k]? = some (.int .i64 (k0 : Int)) := ints_at hyk
        clear hyk hk0
        by_cases hki : k = i
        · have HN : Hid (dec (K.T k0 i0) = false) := by show _ = _; have h1 := HXI.out; have h2 := HYK.out; rw [hki, h1] at h2; injection h2 with h2; rw [← h2]; exact dec_no Keys.T_irrefl
          have bn : ((k : Int) != (i : Int)) = false := by simp [hki]
          have bn2 : (k != i) = false := by simp [hki]
          clear hki
          go_wp2
          refine Mine.region_quiet M.out (by kernel_rfl) (by kernel_rfl) ?_
          repeat (first | go_big_quiet_skip | (go_big_quiet_want; first | (refine Mine.oq_getall 74 _ rfl 2 rfl rfl _ Try.underlying74 (by rfl) (by kernel_rfl) ?_; (try simp only [Act.put, List.setIfInBounds_toArray, List.set_cons_zero, List.set_cons_succ, List.drop_succ_cons, List.drop_zero, List.take_succ_cons, List.take_zero, putAt, ints_set, ints_push, List.getElem_toArray, List.getElem_cons_zero, List.getElem_cons_succ]); go_big_quiet_on) | (refine Mine.oq_getr _ _ rfl 1 _ rfl rfl _ (by assumption) _ (by first | exact Try.underlying3) (by rfl) ?_; (try simp only [Act.put, List.setIfInBounds_toArray, List.set_cons_zero, List.set_cons_succ, List.drop_succ_cons, List.drop_zero, List.take_succ_cons, List.take_zero, putAt, ints_set, ints_push, List.getElem_toArray, List.getElem_cons_zero, List.getElem_cons_succ]); go_big_quiet_on) | (unfold Oper.quiet; apply Exists.intro; refine ⟨fun wq hq => ?_, ?_⟩; (go_simp; go_at_call 109; (with_reducible refine (ahead_any x A0 n0 c0 A1 n1 c1 A2 n2 c2 A3 n3 c3 A4 n4 c4 S HR.out hn3 hq.ext k0 i0 HK0.out HI0.out).mono ?_); rintro e w2 ⟨rfl, x2⟩; exact ⟨rfl, hq.on x2⟩); (try simp only [Act.put, List.setIfInBounds_toArray, List.set_cons_succ, List.set_cons_zero]); go_big_quiet_on) | (unfold Oper.quiet; apply Exists.intro; refine ⟨fun wq hq => ?_, ?_⟩; (clear hq; go_simp; first | done | rfl | exact ⟨rfl, rfl⟩); (try simp only [Act.put, List.setIfInBounds_toArray, List.set_cons_succ, List.set_cons_zero]); go_big_quiet_on)))
          refine wpQuiet_nil ?_
          intro w' M'
          replace M := Lib.hid M'
          clear M'
          go_wp2
          go_roundw
          case rel => exact ⟨k + 1, c, HKL.out, rfl, by go_num, by show _ = _; rw [HC.out]; exact (cnt_no HYK.out HN.out).symm, M⟩
          case measure => have := HKL.out; simp [intOf]; omega
        have bn : ((k : Int) != (i : Int)) = true := by simp; omega
        have bn2 : (k != i) = true := by simp [hki]
        clear hki
        go_wp2
        refine Mine.region_quiet M.out (by kernel_rfl) (by kernel_rfl) ?_
        repeat (first | go_big_quiet_skip | (go_big_quiet_want; first | (refine Mine.oq_getall 74 _ rfl 2 rfl rfl _ Try.underlying74 (by rfl) (by kernel_rfl) ?_; (try simp only [Act.put, List.setIfInBounds_toArray, List.set_cons_zero, List.set_cons_succ, List.drop_succ_cons, List.drop_zero, List.take_succ_cons, List.take_zero, putAt, ints_set, ints_push, List.getElem_toArray, List.getElem_cons_zero, List.getElem_cons_succ]); go_big_quiet_on) | (refine Mine.oq_getr _ _ rfl 1 _ rfl rfl _ (by assumption) _ (by first | exact Try.underlying3) (by rfl) ?_; (try simp only [Act.put, List.setIfInBounds_toArray, List.set_cons_zero, List.set_cons_succ, List.drop_succ_cons, List.drop_zero, List.take_succ_cons, List.take_zero, putAt, ints_set, ints_push, List.getElem_toArray, List.getElem_cons_zero, List.getElem_cons_succ]); go_big_quiet_on) | (unfold Oper.quiet; apply Exists.intro; refine ⟨fun wq hq => ?_, ?_⟩; (go_simp; go_at_call 109; (with_reducible refine (ahead_any x A0 n0 c0 A1 n1 c1 A2 n2 c2 A3 n3 c3 A4 n4 c4 S HR.out hn3 hq.ext k0 i0 HK0.out HI0.out).mono ?_); rintro e w2 ⟨rfl, x2⟩; exact ⟨rfl, hq.on x2⟩); (try simp only [Act.put, List.setIfInBounds_toArray, List.set_cons_succ, List.set_cons_zero]); go_big_quiet_on) | (unfold Oper.quiet; apply Exists.intro; refine ⟨fun wq hq => ?_, ?_⟩; (clear hq; go_simp; first | done | rfl | exact ⟨rfl, rfl⟩); (try simp only [Act.put, List.setIfInBounds_toArray, List.set_cons_succ, List.set_cons_zero]); go_big_quiet_on)))
        refine wpQuiet_nil ?_
        intro w' M'
        replace M := Lib.hid M'
        clear M'
        rw [← HK.out]
        cases hv : dec (K.T k0 i0)
        · have HN := Lib.hid hv
          clear hv
          go_wp2
          go_roundw
          case rel => exact ⟨k + 1, c, HKL.out, rfl, by go_num, by show _ = _; rw [HC.out]; exact (cnt_no HYK.out HN.out).symm, M⟩
          case measure => have := HKL.out; simp [intOf]; omega
        have HN := Lib.hid hv
        clear hv
        go_wp2
        go_roundw
        case rel => exact ⟨k + 1, c + 1, HKL.out, by go_num, by go_num, by show _ = _; rw [HC.out]; exact (cnt_yes HYK.out HN.out).symm, M⟩
        case measure => have := HKL.out; simp [intOf]; omega
theorem spec_Ranks (x : GWorld) (cs : List Value) (w : World) (S : Nat → Prop) (h : GWorld.R w S cs x) (_hw : GWorld.wt x ≤ 1048576) :
    Calls Try.prog 74 #[.agg cs.toArray] w fun e w' => ∃ B m d, e = .returned (.slice B m d) ∧ w'.ownsRow w.heap.size 3 1 (.slice B m d) m (ints (ranksOf x)) ∧ Ext w w' :=
  (spec_Ranks2 x cs w S h _hw).mono fun e w' ⟨g, m, d, h1, h2, h3⟩ => ⟨_, m, d, h1, h2, h3⟩
end Go.Proofs.Ytfacckjfoajijaa
