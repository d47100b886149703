/- VersPut of the reference. No condition but lengths. -/
import Derived.Test.YtnhkjgnfjphllaaVPutI
import Derived.Test.YtnhkjgnfjphllaaVTrimS
import Derived.Test.YtnhkjgnfjphllaaRegH
namespace Go.Proofs.Ytnhkjgnfjphllaa
open Go.RowKit Go.Deep
set_option linter.unusedSimpArgs false
set_option linter.unusedVariables false

theorem merge_len {l : List Ver} {st : Int} {ps : List Row} (h : l.length ≤ 60) : ∀ k, (mergeTo l st ps k).length ≤ k * 61
  | 0 => Nat.zero_le _
  | k + 1 => by
    have ih := merge_len (st := st) (ps := ps) h k
    have hf := List.length_filter_le (fun x : Ver => decide (x.cell = (k : Int))) l
    unfold mergeTo
    rw [List.length_append, List.length_append]
    have hn : (newOf st ps k).length ≤ 1 := by unfold newOf; split <;> simp
    omega
/-- The merge within a cell. -/
noncomputable def mid (l : List Ver) (st : Int) (ps : List Row) (k j : Nat) : List Ver := mergeTo l st ps k ++ (l.take j).filter (fun x => decide (x.cell = (k : Int)))
theorem mid_zero (l : List Ver) (st : Int) (ps : List Row) (k : Nat) : mid l st ps k 0 = mergeTo l st ps k := by simp [mid]
theorem mid_yes {l : List Ver} {st : Int} {ps : List Row} {k j : Nat} {x : Ver} (hx : l[j]? = some x) (h : x.cell = (k : Int)) : mid l st ps k (j + 1) = mid l st ps k j ++ [x] := by
  unfold mid
  rw [List.take_add_one, hx, List.filter_append]
  simp [h]
theorem mid_no {l : List Ver} {st : Int} {ps : List Row} {k j : Nat} {x : Ver} (hx : l[j]? = some x) (h : ¬ x.cell = (k : Int)) : mid l st ps k (j + 1) = mid l st ps k j := by
  unfold mid
  rw [List.take_add_one, hx, List.filter_append]
  simp [h]
theorem mid_end {l : List Ver} {st : Int} {ps : List Row} {k : Nat} : mergeTo l st ps (k + 1) = mid l st ps k l.length ++ newOf st ps k := by
  unfold mid
  rw [List.take_length]
  show mergeTo l st ps k ++ _ = _
  rw [List.append_assoc]
theorem new_some {st : Int} {ps : List Row} {k : Nat} {v : Int} (h : lastV ps (k : Int) = some v) : newOf st ps k = [⟨(k : Int), st, v⟩] := by unfold newOf; rw [h]
theorem new_none {st : Int} {ps : List Row} {k : Nat} (h : lastV ps (k : Int) = none) : newOf st ps k = [] := by unfold newOf; rw [h]
theorem mid_len {l : List Ver} {st : Int} {ps : List Row} {k j : Nat} (h : l.length ≤ 60) (hk : k ≤ 8) : (mid l st ps k j).length ≤ 1000 := by
  have h1 := merge_len (st := st) (ps := ps) h k
  have h2 := List.length_filter_le (fun x : Ver => decide (x.cell = (k : Int))) (l.take j)
  unfold mid
  rw [List.length_append]
  have h3 : (l.take j).length ≤ l.length := by rw [List.length_take]; omega
  omega
theorem Mine.end2 {b w : World} {r p x y : Res} (M : Mine b w [x, y, r, p]) : Mine b w [x, y] := M.sub (.cons_cons x (.cons_cons y (.cons r (.cons p .slnil))))

set_option maxRecDepth 4000 in
set_option maxHeartbeats 16000000 in
theorem spec_VersPut_m (st : Int) (f1 : Int) (A0 : Option Addr) (n0 c0 : Nat) (l0 : List Int) (A1 : Option Addr) (n1 c1 : Nat) (l1 : List Ver) (A2 : Option Addr) (n2 c2 : Nat) (l2 : List Row) (w : World) (S0 : Nat → Prop) (hs0 : Sl w S0 1 A0 n0 (ints l0)) (hm0 : n0 ≤ 1048576) (S1 : Nat → Prop) (hs1 : Sl w S1 3 A1 n1 (l1.flatMap Ver.cells)) (hm1 : n1 ≤ 1048576) (S2 : Nat → Prop) (hs2 : Sl w S2 2 A2 n2 (l2.flatMap Row.cells)) (hm2 : n2 ≤ 1048576) :
    Calls Try.prog 33 #[.agg #[.slice A0 n0 c0, .int .i64 f1, .slice A1 n1 c1], .int .i64 st, .slice A2 n2 c2] w fun e w' => ∃ B0 m0 d0 B1 m1 d1, e = .returned (.tuple #[.agg #[.slice B0 m0 d0, .int .i64 f1, .slice B1 m1 d1], .bool (putOk l0 f1 l1 st l2)]) ∧ Mine w w' [.row 3 1 B0 m0 d0 (ints l0), .row 73 3 B1 m1 d1 ((putL l0 f1 l1 st l2).flatMap Ver.cells)] := by
  have H0 := Lib.hid hs0
  have H1 := Lib.hid hs1
  have H2 := Lib.hid hs2
  have HL1 : Hid (l1.length = n1) := hs1.flen Ver.cells_length (by omega)
  clear hs0 hs1 hs2
  have M := Lib.hid (Mine.refl w)
  obtain ⟨V, hV⟩ : ∃ V, versLast l0 f1 l1 = V := ⟨_, rfl⟩
  have hVi := versLast_in l0 f1 l1
  rw [hV] at hVi
  obtain ⟨hV0, hV1⟩ := hVi
  have HV := Lib.hid hV
  clear hV
  have HW : Hid (IntKind.i64.wrap (V + 1) = V + 1) := Go.IntWalk.i64_in _ (by omega)
  obtain ⟨N3, hN3⟩ : ∃ N, (netR l2).length = N := ⟨_, rfl⟩
  have hN8 : N3 ≤ 8 := by rw [← hN3]; exact netTo_len l2 8
  have HN := Lib.hid hN3
  clear hN3
  have HWN : Hid (IntKind.i64.wrap ((n1 : Int) + (N3 : Int)) = (n1 : Int) + (N3 : Int)) := Go.IntWalk.i64_in _ (by omega)
  by_cases hv0 : versOk l0 f1 l1 = true
  rotate_left
  · skip
    have HT := Lib.hid (put_no (b := l0) (f := f1) (l := l1) (st := st) (ps := l2) fun h => hv0 h.1)
    have hv : Hid (versOk l0 f1 l1 = false) := Lib.hid (by simpa using hv0)
    clear hv0
    have hr : Hid (rowsOk l2 = rowsOk l2) := rfl
    have dst : True := trivial
    go_enter Try.func33, Try.ntmps33
    go_wp2_with (first | ((with_reducible show wpList _ _ _ (⟨_, _, _, _, _, none⟩ :: _) _ _); first | (refine Mine.wp_box M.out rfl 25 _ rfl _ rfl ?_; intro gp w' M'; (try simp only [Act.put, List.setIfInBounds_toArray, List.set_cons_zero, List.set_cons_succ, List.drop_succ_cons, List.drop_zero, List.take_succ_cons, List.take_zero, putAt, ints_set, ints_push, List.getElem_toArray, List.getElem_cons_zero, List.getElem_cons_succ] at M'); replace M := Lib.hid M'; clear M'; (try simp only [Act.put, List.setIfInBounds_toArray, List.set_cons_zero, List.set_cons_succ, List.drop_succ_cons, List.drop_zero, List.take_succ_cons, List.take_zero, putAt, ints_set, ints_push, List.getElem_toArray, List.getElem_cons_zero, List.getElem_cons_succ])) | (refine Mine.wp_alloc (rs := [_]) M.out rfl 25 rfl (.agg #[.slice none 0 0, .int .i64 0, .slice none 0 0]) (by kernel_rfl) ?_; intro gr w' M'; (try simp only [Value.cells, Act.put, List.setIfInBounds_toArray, List.set_cons_zero, List.set_cons_succ, List.drop_succ_cons, List.drop_zero, List.take_succ_cons, List.take_zero, putAt, ints_set, ints_push, List.getElem_toArray, List.getElem_cons_zero, List.getElem_cons_succ] at M'); replace M := Lib.hid M'; clear M'; (try simp only [Act.put, List.setIfInBounds_toArray, List.set_cons_zero, List.set_cons_succ, List.drop_succ_cons, List.drop_zero, List.take_succ_cons, List.take_zero, putAt, ints_set, ints_push, List.getElem_toArray, List.getElem_cons_zero, List.getElem_cons_succ]))))
    refine Mine.region_quiet M.out (by kernel_rfl) (by kernel_rfl) ?_
    repeat (first | go_big_quiet_skip | (go_big_quiet_want; first | (refine Mine.oq_gets 25 _ rfl 1 _ 3 rfl rfl (Nat.le_of_ble_eq_true rfl) _ Try.underlying25 (by rfl) (by kernel_rfl) ?_; (try simp only [Act.put, List.setIfInBounds_toArray, List.set_cons_zero, List.set_cons_succ, List.drop_succ_cons, List.drop_zero, List.take_succ_cons, List.take_zero, putAt, ints_set, ints_push, List.getElem_toArray, List.getElem_cons_zero, List.getElem_cons_succ]); go_big_quiet_on) | (refine Mine.oq_get _ _ rfl 1 _ rfl rfl _ rfl _ (by first | exact Try.underlying3 | exact Try.underlying22 | exact Try.underlying23) (by rfl) ?_; (try simp only [Act.put, List.setIfInBounds_toArray, List.set_cons_zero, List.set_cons_succ, List.drop_succ_cons, List.drop_zero, List.take_succ_cons, List.take_zero, putAt, ints_set, ints_push, List.getElem_toArray, List.getElem_cons_zero, List.getElem_cons_succ]); go_big_quiet_on) | (unfold Oper.quiet; apply Exists.intro; refine ⟨fun wq hq => ?_, ?_⟩; (go_simp; go_at_call 20; (try rw [HW.out]); (with_reducible refine (spec_VersOk f1 A0 n0 c0 l0 A1 n1 c1 l1 _ S0 (H0.out.ext hq.ext) hm0 S1 (H1.out.ext hq.ext) hm1).mono ?_); rintro e w2 ⟨rfl, x2⟩; exact ⟨rfl, hq.on x2⟩); (try rw [hv.out]); (try simp only [Act.put, List.setIfInBounds_toArray, List.set_cons_succ, List.set_cons_zero]); go_big_quiet_on) | (unfold Oper.quiet; apply Exists.intro; refine ⟨fun wq hq => ?_, ?_⟩; (go_simp; go_at_call 23; (try rw [HW.out]); (with_reducible refine (spec_VersLast f1 A0 n0 c0 l0 A1 n1 c1 l1 _ S0 (H0.out.ext hq.ext) hm0 S1 (H1.out.ext hq.ext) hm1).mono ?_); rintro e w2 ⟨rfl, x2⟩; exact ⟨rfl, hq.on x2⟩); (try rw [HV.out]); (try simp only [Act.put, List.setIfInBounds_toArray, List.set_cons_succ, List.set_cons_zero]); go_big_quiet_on) | (unfold Oper.quiet; apply Exists.intro; refine ⟨fun wq hq => ?_, ?_⟩; (go_simp; go_at_call 66; (try rw [HW.out]); (with_reducible refine (spec_RowsOk A2 n2 c2 l2 _ S2 (H2.out.ext hq.ext) hm2).mono ?_); rintro e w2 ⟨rfl, x2⟩; exact ⟨rfl, hq.on x2⟩); (try rw [hr.out]); (try simp only [Act.put, List.setIfInBounds_toArray, List.set_cons_succ, List.set_cons_zero]); go_big_quiet_on) | (unfold Oper.quiet; apply Exists.intro; refine ⟨fun wq hq => ?_, ?_⟩; (go_simp; go_at_call 54; (try rw [HW.out]); (with_reducible refine (l1In_any st (V + 1) 1000000 _).mono ?_); rintro e w2 ⟨rfl, x2⟩; (subst x2; exact ⟨rfl, hq⟩)); (try rw [dst]); (try simp only [Act.put, List.setIfInBounds_toArray, List.set_cons_succ, List.set_cons_zero]); go_big_quiet_on) | (unfold Oper.quiet; apply Exists.intro; refine ⟨fun wq hq => ?_, ?_⟩; (clear hq; go_simp; first | done | rfl | exact ⟨rfl, rfl⟩); (try simp only [Act.put, List.setIfInBounds_toArray, List.set_cons_succ, List.set_cons_zero]); go_big_quiet_on)))
    refine wpQuiet_nil ?_
    intro w' M'
    replace M := Lib.hid M'
    clear M'
    go_wp2_with (first | (go_at_call 67; (with_reducible refine (spec_Net A2 n2 c2 l2 _ S2 (H2.out.ext M.out.ext) hm2).mono ?_); rintro e w2 ⟨B3, m3, d3, rfl, MC⟩; obtain rfl : N3 = m3 := (by have h := MC.len 0 rfl; rw [flat_length Row.cells_length] at h; have h2 := HN.out; omega); replace M := Lib.hid (M.out.on MC.ext); clear MC) | (go_at_call 62; (with_reducible refine (l23Copy_m f1 A0 n0 c0 l0 A1 n1 c1 l1 _ S0 (H0.out.ext M.out.ext) hm0 S1 (H1.out.ext M.out.ext) hm1).mono ?_); rintro e w2 ⟨B0, d0, B1, d1, rfl, MC⟩; replace M := Lib.hid (M.out.call MC); simp only [List.cons_append, List.nil_append] at M; clear MC) | ((with_reducible show wpList _ _ _ (⟨_, _, _, _, _, none⟩ :: _) _ _); first | (refine Mine.wp_gets M.out rfl 25 _ rfl 1 _ 3 rfl rfl (Nat.le_of_ble_eq_true rfl) _ Try.underlying25 (by rfl) (by kernel_rfl) ?_; (try simp only [Act.put, List.setIfInBounds_toArray, List.set_cons_zero, List.set_cons_succ, List.drop_succ_cons, List.drop_zero, List.take_succ_cons, List.take_zero, putAt, ints_set, ints_push, List.getElem_toArray, List.getElem_cons_zero, List.getElem_cons_succ])) | (refine Mine.wp_sets M.out rfl 25 _ _ rfl rfl 2 _ rfl rfl _ rfl (Nat.le_of_ble_eq_true rfl) (by simp [Value.oneCell']) (by kernel_rfl) ?_; intro w' M'; (try simp only [Act.put, List.setIfInBounds_toArray, List.set_cons_zero, List.set_cons_succ, List.drop_succ_cons, List.drop_zero, List.take_succ_cons, List.take_zero, putAt, ints_set, ints_push, List.getElem_toArray, List.getElem_cons_zero, List.getElem_cons_succ] at M'); replace M := Lib.hid M'; clear M')))
    refine bodyPost_ret (M.out.results_cell2 Try.results33 _ 2 rfl rfl _ Try.underlying25 (by rfl) (by kernel_rfl)) rfl ?_
    obtain ⟨e1, e2⟩ := HT.out
    rw [e1, e2]
    exact ⟨_, _, _, _, _, _, rfl, M.out.end2⟩
  have hv : Hid (versOk l0 f1 l1 = true) := hv0
  by_cases hst : V + 1 ≤ st ∧ st ≤ 1000000
  rotate_left
  · skip
    have HT := Lib.hid (put_no (b := l0) (f := f1) (l := l1) (st := st) (ps := l2) fun h => hst (by rw [← HV.out]; exact h.2.1))
    have dst : decide (V + 1 ≤ st ∧ st ≤ 1000000) = false := decide_eq_false hst
    have hr : Hid (rowsOk l2 = rowsOk l2) := rfl
    clear hst hv0
    go_enter Try.func33, Try.ntmps33
    go_wp2_with (first | ((with_reducible show wpList _ _ _ (⟨_, _, _, _, _, none⟩ :: _) _ _); first | (refine Mine.wp_box M.out rfl 25 _ rfl _ rfl ?_; intro gp w' M'; (try simp only [Act.put, List.setIfInBounds_toArray, List.set_cons_zero, List.set_cons_succ, List.drop_succ_cons, List.drop_zero, List.take_succ_cons, List.take_zero, putAt, ints_set, ints_push, List.getElem_toArray, List.getElem_cons_zero, List.getElem_cons_succ] at M'); replace M := Lib.hid M'; clear M'; (try simp only [Act.put, List.setIfInBounds_toArray, List.set_cons_zero, List.set_cons_succ, List.drop_succ_cons, List.drop_zero, List.take_succ_cons, List.take_zero, putAt, ints_set, ints_push, List.getElem_toArray, List.getElem_cons_zero, List.getElem_cons_succ])) | (refine Mine.wp_alloc (rs := [_]) M.out rfl 25 rfl (.agg #[.slice none 0 0, .int .i64 0, .slice none 0 0]) (by kernel_rfl) ?_; intro gr w' M'; (try simp only [Value.cells, Act.put, List.setIfInBounds_toArray, List.set_cons_zero, List.set_cons_succ, List.drop_succ_cons, List.drop_zero, List.take_succ_cons, List.take_zero, putAt, ints_set, ints_push, List.getElem_toArray, List.getElem_cons_zero, List.getElem_cons_succ] at M'); replace M := Lib.hid M'; clear M'; (try simp only [Act.put, List.setIfInBounds_toArray, List.set_cons_zero, List.set_cons_succ, List.drop_succ_cons, List.drop_zero, List.take_succ_cons, List.take_zero, putAt, ints_set, ints_push, List.getElem_toArray, List.getElem_cons_zero, List.getElem_cons_succ]))))
    refine Mine.region_quiet M.out (by kernel_rfl) (by kernel_rfl) ?_
    repeat (first | go_big_quiet_skip | (go_big_quiet_want; first | (refine Mine.oq_gets 25 _ rfl 1 _ 3 rfl rfl (Nat.le_of_ble_eq_true rfl) _ Try.underlying25 (by rfl) (by kernel_rfl) ?_; (try simp only [Act.put, List.setIfInBounds_toArray, List.set_cons_zero, List.set_cons_succ, List.drop_succ_cons, List.drop_zero, List.take_succ_cons, List.take_zero, putAt, ints_set, ints_push, List.getElem_toArray, List.getElem_cons_zero, List.getElem_cons_succ]); go_big_quiet_on) | (refine Mine.oq_get _ _ rfl 1 _ rfl rfl _ rfl _ (by first | exact Try.underlying3 | exact Try.underlying22 | exact Try.underlying23) (by rfl) ?_; (try simp only [Act.put, List.setIfInBounds_toArray, List.set_cons_zero, List.set_cons_succ, List.drop_succ_cons, List.drop_zero, List.take_succ_cons, List.take_zero, putAt, ints_set, ints_push, List.getElem_toArray, List.getElem_cons_zero, List.getElem_cons_succ]); go_big_quiet_on) | (unfold Oper.quiet; apply Exists.intro; refine ⟨fun wq hq => ?_, ?_⟩; (go_simp; go_at_call 20; (try rw [HW.out]); (with_reducible refine (spec_VersOk f1 A0 n0 c0 l0 A1 n1 c1 l1 _ S0 (H0.out.ext hq.ext) hm0 S1 (H1.out.ext hq.ext) hm1).mono ?_); rintro e w2 ⟨rfl, x2⟩; exact ⟨rfl, hq.on x2⟩); (try rw [hv.out]); (try simp only [Act.put, List.setIfInBounds_toArray, List.set_cons_succ, List.set_cons_zero]); go_big_quiet_on) | (unfold Oper.quiet; apply Exists.intro; refine ⟨fun wq hq => ?_, ?_⟩; (go_simp; go_at_call 23; (try rw [HW.out]); (with_reducible refine (spec_VersLast f1 A0 n0 c0 l0 A1 n1 c1 l1 _ S0 (H0.out.ext hq.ext) hm0 S1 (H1.out.ext hq.ext) hm1).mono ?_); rintro e w2 ⟨rfl, x2⟩; exact ⟨rfl, hq.on x2⟩); (try rw [HV.out]); (try simp only [Act.put, List.setIfInBounds_toArray, List.set_cons_succ, List.set_cons_zero]); go_big_quiet_on) | (unfold Oper.quiet; apply Exists.intro; refine ⟨fun wq hq => ?_, ?_⟩; (go_simp; go_at_call 66; (try rw [HW.out]); (with_reducible refine (spec_RowsOk A2 n2 c2 l2 _ S2 (H2.out.ext hq.ext) hm2).mono ?_); rintro e w2 ⟨rfl, x2⟩; exact ⟨rfl, hq.on x2⟩); (try rw [hr.out]); (try simp only [Act.put, List.setIfInBounds_toArray, List.set_cons_succ, List.set_cons_zero]); go_big_quiet_on) | (unfold Oper.quiet; apply Exists.intro; refine ⟨fun wq hq => ?_, ?_⟩; (go_simp; go_at_call 54; (try rw [HW.out]); (with_reducible refine (l1In_any st (V + 1) 1000000 _).mono ?_); rintro e w2 ⟨rfl, x2⟩; (subst x2; exact ⟨rfl, hq⟩)); (try rw [dst]); (try simp only [Act.put, List.setIfInBounds_toArray, List.set_cons_succ, List.set_cons_zero]); go_big_quiet_on) | (unfold Oper.quiet; apply Exists.intro; refine ⟨fun wq hq => ?_, ?_⟩; (clear hq; go_simp; first | done | rfl | exact ⟨rfl, rfl⟩); (try simp only [Act.put, List.setIfInBounds_toArray, List.set_cons_succ, List.set_cons_zero]); go_big_quiet_on)))
    refine wpQuiet_nil ?_
    intro w' M'
    replace M := Lib.hid M'
    clear M'
    go_wp2_with (first | (go_at_call 67; (with_reducible refine (spec_Net A2 n2 c2 l2 _ S2 (H2.out.ext M.out.ext) hm2).mono ?_); rintro e w2 ⟨B3, m3, d3, rfl, MC⟩; obtain rfl : N3 = m3 := (by have h := MC.len 0 rfl; rw [flat_length Row.cells_length] at h; have h2 := HN.out; omega); replace M := Lib.hid (M.out.on MC.ext); clear MC) | (go_at_call 62; (with_reducible refine (l23Copy_m f1 A0 n0 c0 l0 A1 n1 c1 l1 _ S0 (H0.out.ext M.out.ext) hm0 S1 (H1.out.ext M.out.ext) hm1).mono ?_); rintro e w2 ⟨B0, d0, B1, d1, rfl, MC⟩; replace M := Lib.hid (M.out.call MC); simp only [List.cons_append, List.nil_append] at M; clear MC) | ((with_reducible show wpList _ _ _ (⟨_, _, _, _, _, none⟩ :: _) _ _); first | (refine Mine.wp_gets M.out rfl 25 _ rfl 1 _ 3 rfl rfl (Nat.le_of_ble_eq_true rfl) _ Try.underlying25 (by rfl) (by kernel_rfl) ?_; (try simp only [Act.put, List.setIfInBounds_toArray, List.set_cons_zero, List.set_cons_succ, List.drop_succ_cons, List.drop_zero, List.take_succ_cons, List.take_zero, putAt, ints_set, ints_push, List.getElem_toArray, List.getElem_cons_zero, List.getElem_cons_succ])) | (refine Mine.wp_sets M.out rfl 25 _ _ rfl rfl 2 _ rfl rfl _ rfl (Nat.le_of_ble_eq_true rfl) (by simp [Value.oneCell']) (by kernel_rfl) ?_; intro w' M'; (try simp only [Act.put, List.setIfInBounds_toArray, List.set_cons_zero, List.set_cons_succ, List.drop_succ_cons, List.drop_zero, List.take_succ_cons, List.take_zero, putAt, ints_set, ints_push, List.getElem_toArray, List.getElem_cons_zero, List.getElem_cons_succ] at M'); replace M := Lib.hid M'; clear M')))
    refine bodyPost_ret (M.out.results_cell2 Try.results33 _ 2 rfl rfl _ Try.underlying25 (by rfl) (by kernel_rfl)) rfl ?_
    obtain ⟨e1, e2⟩ := HT.out
    rw [e1, e2]
    exact ⟨_, _, _, _, _, _, rfl, M.out.end2⟩
  have dst : decide (V + 1 ≤ st ∧ st ≤ 1000000) = true := decide_eq_true hst
  by_cases hr0 : rowsOk l2 = true
  rotate_left
  · skip
    have HT := Lib.hid (put_no (b := l0) (f := f1) (l := l1) (st := st) (ps := l2) fun h => hr0 h.2.2.1)
    have hr : Hid (rowsOk l2 = false) := Lib.hid (by simpa using hr0)
    clear hr0 hv0 hst
    go_enter Try.func33, Try.ntmps33
    go_wp2_with (first | ((with_reducible show wpList _ _ _ (⟨_, _, _, _, _, none⟩ :: _) _ _); first | (refine Mine.wp_box M.out rfl 25 _ rfl _ rfl ?_; intro gp w' M'; (try simp only [Act.put, List.setIfInBounds_toArray, List.set_cons_zero, List.set_cons_succ, List.drop_succ_cons, List.drop_zero, List.take_succ_cons, List.take_zero, putAt, ints_set, ints_push, List.getElem_toArray, List.getElem_cons_zero, List.getElem_cons_succ] at M'); replace M := Lib.hid M'; clear M'; (try simp only [Act.put, List.setIfInBounds_toArray, List.set_cons_zero, List.set_cons_succ, List.drop_succ_cons, List.drop_zero, List.take_succ_cons, List.take_zero, putAt, ints_set, ints_push, List.getElem_toArray, List.getElem_cons_zero, List.getElem_cons_succ])) | (refine Mine.wp_alloc (rs := [_]) M.out rfl 25 rfl (.agg #[.slice none 0 0, .int .i64 0, .slice none 0 0]) (by kernel_rfl) ?_; intro gr w' M'; (try simp only [Value.cells, Act.put, List.setIfInBounds_toArray, List.set_cons_zero, List.set_cons_succ, List.drop_succ_cons, List.drop_zero, List.take_succ_cons, List.take_zero, putAt, ints_set, ints_push, List.getElem_toArray, List.getElem_cons_zero, List.getElem_cons_succ] at M'); replace M := Lib.hid M'; clear M'; (try simp only [Act.put, List.setIfInBounds_toArray, List.set_cons_zero, List.set_cons_succ, List.drop_succ_cons, List.drop_zero, List.take_succ_cons, List.take_zero, putAt, ints_set, ints_push, List.getElem_toArray, List.getElem_cons_zero, List.getElem_cons_succ]))))
    refine Mine.region_quiet M.out (by kernel_rfl) (by kernel_rfl) ?_
    repeat (first | go_big_quiet_skip | (go_big_quiet_want; first | (refine Mine.oq_gets 25 _ rfl 1 _ 3 rfl rfl (Nat.le_of_ble_eq_true rfl) _ Try.underlying25 (by rfl) (by kernel_rfl) ?_; (try simp only [Act.put, List.setIfInBounds_toArray, List.set_cons_zero, List.set_cons_succ, List.drop_succ_cons, List.drop_zero, List.take_succ_cons, List.take_zero, putAt, ints_set, ints_push, List.getElem_toArray, List.getElem_cons_zero, List.getElem_cons_succ]); go_big_quiet_on) | (refine Mine.oq_get _ _ rfl 1 _ rfl rfl _ rfl _ (by first | exact Try.underlying3 | exact Try.underlying22 | exact Try.underlying23) (by rfl) ?_; (try simp only [Act.put, List.setIfInBounds_toArray, List.set_cons_zero, List.set_cons_succ, List.drop_succ_cons, List.drop_zero, List.take_succ_cons, List.take_zero, putAt, ints_set, ints_push, List.getElem_toArray, List.getElem_cons_zero, List.getElem_cons_succ]); go_big_quiet_on) | (unfold Oper.quiet; apply Exists.intro; refine ⟨fun wq hq => ?_, ?_⟩; (go_simp; go_at_call 20; (try rw [HW.out]); (with_reducible refine (spec_VersOk f1 A0 n0 c0 l0 A1 n1 c1 l1 _ S0 (H0.out.ext hq.ext) hm0 S1 (H1.out.ext hq.ext) hm1).mono ?_); rintro e w2 ⟨rfl, x2⟩; exact ⟨rfl, hq.on x2⟩); (try rw [hv.out]); (try simp only [Act.put, List.setIfInBounds_toArray, List.set_cons_succ, List.set_cons_zero]); go_big_quiet_on) | (unfold Oper.quiet; apply Exists.intro; refine ⟨fun wq hq => ?_, ?_⟩; (go_simp; go_at_call 23; (try rw [HW.out]); (with_reducible refine (spec_VersLast f1 A0 n0 c0 l0 A1 n1 c1 l1 _ S0 (H0.out.ext hq.ext) hm0 S1 (H1.out.ext hq.ext) hm1).mono ?_); rintro e w2 ⟨rfl, x2⟩; exact ⟨rfl, hq.on x2⟩); (try rw [HV.out]); (try simp only [Act.put, List.setIfInBounds_toArray, List.set_cons_succ, List.set_cons_zero]); go_big_quiet_on) | (unfold Oper.quiet; apply Exists.intro; refine ⟨fun wq hq => ?_, ?_⟩; (go_simp; go_at_call 66; (try rw [HW.out]); (with_reducible refine (spec_RowsOk A2 n2 c2 l2 _ S2 (H2.out.ext hq.ext) hm2).mono ?_); rintro e w2 ⟨rfl, x2⟩; exact ⟨rfl, hq.on x2⟩); (try rw [hr.out]); (try simp only [Act.put, List.setIfInBounds_toArray, List.set_cons_succ, List.set_cons_zero]); go_big_quiet_on) | (unfold Oper.quiet; apply Exists.intro; refine ⟨fun wq hq => ?_, ?_⟩; (go_simp; go_at_call 54; (try rw [HW.out]); (with_reducible refine (l1In_any st (V + 1) 1000000 _).mono ?_); rintro e w2 ⟨rfl, x2⟩; (subst x2; exact ⟨rfl, hq⟩)); (try rw [dst]); (try simp only [Act.put, List.setIfInBounds_toArray, List.set_cons_succ, List.set_cons_zero]); go_big_quiet_on) | (unfold Oper.quiet; apply Exists.intro; refine ⟨fun wq hq => ?_, ?_⟩; (clear hq; go_simp; first | done | rfl | exact ⟨rfl, rfl⟩); (try simp only [Act.put, List.setIfInBounds_toArray, List.set_cons_succ, List.set_cons_zero]); go_big_quiet_on)))
    refine wpQuiet_nil ?_
    intro w' M'
    replace M := Lib.hid M'
    clear M'
    go_wp2_with (first | (go_at_call 67; (with_reducible refine (spec_Net A2 n2 c2 l2 _ S2 (H2.out.ext M.out.ext) hm2).mono ?_); rintro e w2 ⟨B3, m3, d3, rfl, MC⟩; obtain rfl : N3 = m3 := (by have h := MC.len 0 rfl; rw [flat_length Row.cells_length] at h; have h2 := HN.out; omega); replace M := Lib.hid (M.out.on MC.ext); clear MC) | (go_at_call 62; (with_reducible refine (l23Copy_m f1 A0 n0 c0 l0 A1 n1 c1 l1 _ S0 (H0.out.ext M.out.ext) hm0 S1 (H1.out.ext M.out.ext) hm1).mono ?_); rintro e w2 ⟨B0, d0, B1, d1, rfl, MC⟩; replace M := Lib.hid (M.out.call MC); simp only [List.cons_append, List.nil_append] at M; clear MC) | ((with_reducible show wpList _ _ _ (⟨_, _, _, _, _, none⟩ :: _) _ _); first | (refine Mine.wp_gets M.out rfl 25 _ rfl 1 _ 3 rfl rfl (Nat.le_of_ble_eq_true rfl) _ Try.underlying25 (by rfl) (by kernel_rfl) ?_; (try simp only [Act.put, List.setIfInBounds_toArray, List.set_cons_zero, List.set_cons_succ, List.drop_succ_cons, List.drop_zero, List.take_succ_cons, List.take_zero, putAt, ints_set, ints_push, List.getElem_toArray, List.getElem_cons_zero, List.getElem_cons_succ])) | (refine Mine.wp_sets M.out rfl 25 _ _ rfl rfl 2 _ rfl rfl _ rfl (Nat.le_of_ble_eq_true rfl) (by simp [Value.oneCell']) (by kernel_rfl) ?_; intro w' M'; (try simp only [Act.put, List.setIfInBounds_toArray, List.set_cons_zero, List.set_cons_succ, List.drop_succ_cons, List.drop_zero, List.take_succ_cons, List.take_zero, putAt, ints_set, ints_push, List.getElem_toArray, List.getElem_cons_zero, List.getElem_cons_succ] at M'); replace M := Lib.hid M'; clear M')))
    refine bodyPost_ret (M.out.results_cell2 Try.results33 _ 2 rfl rfl _ Try.underlying25 (by rfl) (by kernel_rfl)) rfl ?_
    obtain ⟨e1, e2⟩ := HT.out
    rw [e1, e2]
    exact ⟨_, _, _, _, _, _, rfl, M.out.end2⟩
  have hr : Hid (rowsOk l2 = true) := hr0
  by_cases hle : n1 + N3 ≤ 60
  rotate_left
  · skip
    have HT := Lib.hid (put_no (b := l0) (f := f1) (l := l1) (st := st) (ps := l2) fun h => hle (by have := h.2.2.2; rw [HL1.out, HN.out] at this; exact this))
    have dg : decide ((60 : Int) < (n1 : Int) + (N3 : Int)) = true := decide_eq_true (by omega)
    clear hst hr0 hv0 hle
    go_enter Try.func33, Try.ntmps33
    go_wp2_with (first | ((with_reducible show wpList _ _ _ (⟨_, _, _, _, _, none⟩ :: _) _ _); first | (refine Mine.wp_box M.out rfl 25 _ rfl _ rfl ?_; intro gp w' M'; (try simp only [Act.put, List.setIfInBounds_toArray, List.set_cons_zero, List.set_cons_succ, List.drop_succ_cons, List.drop_zero, List.take_succ_cons, List.take_zero, putAt, ints_set, ints_push, List.getElem_toArray, List.getElem_cons_zero, List.getElem_cons_succ] at M'); replace M := Lib.hid M'; clear M'; (try simp only [Act.put, List.setIfInBounds_toArray, List.set_cons_zero, List.set_cons_succ, List.drop_succ_cons, List.drop_zero, List.take_succ_cons, List.take_zero, putAt, ints_set, ints_push, List.getElem_toArray, List.getElem_cons_zero, List.getElem_cons_succ])) | (refine Mine.wp_alloc (rs := [_]) M.out rfl 25 rfl (.agg #[.slice none 0 0, .int .i64 0, .slice none 0 0]) (by kernel_rfl) ?_; intro gr w' M'; (try simp only [Value.cells, Act.put, List.setIfInBounds_toArray, List.set_cons_zero, List.set_cons_succ, List.drop_succ_cons, List.drop_zero, List.take_succ_cons, List.take_zero, putAt, ints_set, ints_push, List.getElem_toArray, List.getElem_cons_zero, List.getElem_cons_succ] at M'); replace M := Lib.hid M'; clear M'; (try simp only [Act.put, List.setIfInBounds_toArray, List.set_cons_zero, List.set_cons_succ, List.drop_succ_cons, List.drop_zero, List.take_succ_cons, List.take_zero, putAt, ints_set, ints_push, List.getElem_toArray, List.getElem_cons_zero, List.getElem_cons_succ]))))
    have q0 := (M.out.box_at 1 rfl).cell 0
    have q1 := (M.out.box_at 1 rfl).cell 1
    have q2 := (M.out.box_at 1 rfl).cell 2
    simp only [List.getElem?_toArray, List.getElem?_cons_zero, List.getElem?_cons_succ] at q0 q1 q2
    go_region_held3 (fun w' => w'.cell? ⟨gp, 0, none⟩ = some (.slice A0 n0 c0) ∧ w'.cell? ⟨gp, 1, none⟩ = some (.int .i64 f1) ∧ w'.cell? ⟨gp, 2, none⟩ = some (.slice A1 n1 c1)) (first | go_keep | exact ⟨((M.out.dr).box_at 1 rfl).cell 0, ((M.out.dr).box_at 1 rfl).cell 1, ((M.out.dr).box_at 1 rfl).cell 2⟩ | exact ⟨((M.out).box_at 1 rfl).cell 0, ((M.out).box_at 1 rfl).cell 1, ((M.out).box_at 1 rfl).cell 2⟩ | fail) (first | (go_at_call 20; (with_reducible refine (spec_VersOk f1 A0 n0 c0 l0 A1 n1 c1 l1 _ S0 (H0.out.ext (M.out.dr).ext) hm0 S1 (H1.out.ext (M.out.dr).ext) hm1).mono ?_); rintro e w2 ⟨rfl, x2⟩; replace M := Lib.hid ((M.out.dr).on x2); clear x2; rw [hv.out]) | (go_at_call 20; (with_reducible refine (spec_VersOk f1 A0 n0 c0 l0 A1 n1 c1 l1 _ S0 (H0.out.ext (M.out).ext) hm0 S1 (H1.out.ext (M.out).ext) hm1).mono ?_); rintro e w2 ⟨rfl, x2⟩; replace M := Lib.hid ((M.out).on x2); clear x2; rw [hv.out]) | (go_at_call 23; (with_reducible refine (spec_VersLast f1 A0 n0 c0 l0 A1 n1 c1 l1 _ S0 (H0.out.ext (M.out).ext) hm0 S1 (H1.out.ext (M.out).ext) hm1).mono ?_); rintro e w2 ⟨rfl, x2⟩; replace M := Lib.hid ((M.out).on x2); clear x2; rw [HV.out]) | (go_at_call 66; (with_reducible refine (spec_RowsOk A2 n2 c2 l2 _ S2 (H2.out.ext (M.out).ext) hm2).mono ?_); rintro e w2 ⟨rfl, x2⟩; replace M := Lib.hid ((M.out).on x2); clear x2; rw [hr.out]) | (go_at_call 54; (try rw [HW.out]); (with_reducible refine (l1In_any st (V + 1) 1000000 _).mono ?_); rintro e w2 ⟨rfl, rfl⟩) | (go_at_call 67; (with_reducible refine (spec_Net A2 n2 c2 l2 _ S2 (H2.out.ext M.out.ext) hm2).mono ?_); rintro e w2 ⟨B3, m3, d3, rfl, MC⟩; obtain rfl : N3 = m3 := (by have h := MC.len 0 rfl; rw [flat_length Row.cells_length] at h; have h2 := HN.out; omega); replace M := Lib.hid (M.out.on MC.ext); clear MC) | fail)
    simp only [HWN.out, dg]
    go_wp2_with (first | (go_at_call 67; (with_reducible refine (spec_Net A2 n2 c2 l2 _ S2 (H2.out.ext M.out.ext) hm2).mono ?_); rintro e w2 ⟨B3, m3, d3, rfl, MC⟩; obtain rfl : N3 = m3 := (by have h := MC.len 0 rfl; rw [flat_length Row.cells_length] at h; have h2 := HN.out; omega); replace M := Lib.hid (M.out.on MC.ext); clear MC) | (go_at_call 62; (with_reducible refine (l23Copy_m f1 A0 n0 c0 l0 A1 n1 c1 l1 _ S0 (H0.out.ext M.out.ext) hm0 S1 (H1.out.ext M.out.ext) hm1).mono ?_); rintro e w2 ⟨B0, d0, B1, d1, rfl, MC⟩; replace M := Lib.hid (M.out.call MC); simp only [List.cons_append, List.nil_append] at M; clear MC) | ((with_reducible show wpList _ _ _ (⟨_, _, _, _, _, none⟩ :: _) _ _); first | (refine Mine.wp_gets M.out rfl 25 _ rfl 1 _ 3 rfl rfl (Nat.le_of_ble_eq_true rfl) _ Try.underlying25 (by rfl) (by kernel_rfl) ?_; (try simp only [Act.put, List.setIfInBounds_toArray, List.set_cons_zero, List.set_cons_succ, List.drop_succ_cons, List.drop_zero, List.take_succ_cons, List.take_zero, putAt, ints_set, ints_push, List.getElem_toArray, List.getElem_cons_zero, List.getElem_cons_succ])) | (refine Mine.wp_sets M.out rfl 25 _ _ rfl rfl 2 _ rfl rfl _ rfl (Nat.le_of_ble_eq_true rfl) (by simp [Value.oneCell']) (by kernel_rfl) ?_; intro w' M'; (try simp only [Act.put, List.setIfInBounds_toArray, List.set_cons_zero, List.set_cons_succ, List.drop_succ_cons, List.drop_zero, List.take_succ_cons, List.take_zero, putAt, ints_set, ints_push, List.getElem_toArray, List.getElem_cons_zero, List.getElem_cons_succ] at M'); replace M := Lib.hid M'; clear M')))
    refine bodyPost_ret (M.out.results_cell2 Try.results33 _ 2 rfl rfl _ Try.underlying25 (by rfl) (by kernel_rfl)) rfl ?_
    obtain ⟨e1, e2⟩ := HT.out
    rw [e1, e2]
    exact ⟨_, _, _, _, _, _, rfl, M.out.end2⟩
  have HT := Lib.hid (put_yes (b := l0) (f := f1) (l := l1) (st := st) (ps := l2) ⟨hv0, by rw [HV.out]; exact hst, hr0, by rw [HL1.out, HN.out]; exact hle⟩)
  have dg : decide ((60 : Int) < (n1 : Int) + (N3 : Int)) = false := decide_eq_false (by omega)
  have H60 : Hid (l1.length ≤ 60) := by show _ ≤ _; rw [HL1.out]; omega
  have hn60 : n1 ≤ 60 := by omega
  clear hst hr0 hv0 hle
  go_enter Try.func33, Try.ntmps33
  go_wp2_with (first | ((with_reducible show wpList _ _ _ (⟨_, _, _, _, _, none⟩ :: _) _ _); first | (refine Mine.wp_box M.out rfl 25 _ rfl _ rfl ?_; intro gp w' M'; (try simp only [Act.put, List.setIfInBounds_toArray, List.set_cons_zero, List.set_cons_succ, List.drop_succ_cons, List.drop_zero, List.take_succ_cons, List.take_zero, putAt, ints_set, ints_push, List.getElem_toArray, List.getElem_cons_zero, List.getElem_cons_succ] at M'); replace M := Lib.hid M'; clear M'; (try simp only [Act.put, List.setIfInBounds_toArray, List.set_cons_zero, List.set_cons_succ, List.drop_succ_cons, List.drop_zero, List.take_succ_cons, List.take_zero, putAt, ints_set, ints_push, List.getElem_toArray, List.getElem_cons_zero, List.getElem_cons_succ])) | (refine Mine.wp_alloc (rs := [_]) M.out rfl 25 rfl (.agg #[.slice none 0 0, .int .i64 0, .slice none 0 0]) (by kernel_rfl) ?_; intro gr w' M'; (try simp only [Value.cells, Act.put, List.setIfInBounds_toArray, List.set_cons_zero, List.set_cons_succ, List.drop_succ_cons, List.drop_zero, List.take_succ_cons, List.take_zero, putAt, ints_set, ints_push, List.getElem_toArray, List.getElem_cons_zero, List.getElem_cons_succ] at M'); replace M := Lib.hid M'; clear M'; (try simp only [Act.put, List.setIfInBounds_toArray, List.set_cons_zero, List.set_cons_succ, List.drop_succ_cons, List.drop_zero, List.take_succ_cons, List.take_zero, putAt, ints_set, ints_push, List.getElem_toArray, List.getElem_cons_zero, List.getElem_cons_succ]))))
  have q0 := (M.out.box_at 1 rfl).cell 0
  have q1 := (M.out.box_at 1 rfl).cell 1
  have q2 := (M.out.box_at 1 rfl).cell 2
  simp only [List.getElem?_toArray, List.getElem?_cons_zero, List.getElem?_cons_succ] at q0 q1 q2
  go_region_held3 (fun w' => w'.cell? ⟨gp, 0, none⟩ = some (.slice A0 n0 c0) ∧ w'.cell? ⟨gp, 1, none⟩ = some (.int .i64 f1) ∧ w'.cell? ⟨gp, 2, none⟩ = some (.slice A1 n1 c1)) (first | go_keep | exact ⟨((M.out.dr).box_at 1 rfl).cell 0, ((M.out.dr).box_at 1 rfl).cell 1, ((M.out.dr).box_at 1 rfl).cell 2⟩ | exact ⟨((M.out).box_at 1 rfl).cell 0, ((M.out).box_at 1 rfl).cell 1, ((M.out).box_at 1 rfl).cell 2⟩ | fail) (first | (go_at_call 20; (with_reducible refine (spec_VersOk f1 A0 n0 c0 l0 A1 n1 c1 l1 _ S0 (H0.out.ext (M.out.dr).ext) hm0 S1 (H1.out.ext (M.out.dr).ext) hm1).mono ?_); rintro e w2 ⟨rfl, x2⟩; replace M := Lib.hid ((M.out.dr).on x2); clear x2; rw [hv.out]) | (go_at_call 20; (with_reducible refine (spec_VersOk f1 A0 n0 c0 l0 A1 n1 c1 l1 _ S0 (H0.out.ext (M.out).ext) hm0 S1 (H1.out.ext (M.out).ext) hm1).mono ?_); rintro e w2 ⟨rfl, x2⟩; replace M := Lib.hid ((M.out).on x2); clear x2; rw [hv.out]) | (go_at_call 23; (with_reducible refine (spec_VersLast f1 A0 n0 c0 l0 A1 n1 c1 l1 _ S0 (H0.out.ext (M.out).ext) hm0 S1 (H1.out.ext (M.out).ext) hm1).mono ?_); rintro e w2 ⟨rfl, x2⟩; replace M := Lib.hid ((M.out).on x2); clear x2; rw [HV.out]) | (go_at_call 66; (with_reducible refine (spec_RowsOk A2 n2 c2 l2 _ S2 (H2.out.ext (M.out).ext) hm2).mono ?_); rintro e w2 ⟨rfl, x2⟩; replace M := Lib.hid ((M.out).on x2); clear x2; rw [hr.out]) | (go_at_call 54; (try rw [HW.out]); (with_reducible refine (l1In_any st (V + 1) 1000000 _).mono ?_); rintro e w2 ⟨rfl, rfl⟩) | (go_at_call 67; (with_reducible refine (spec_Net A2 n2 c2 l2 _ S2 (H2.out.ext M.out.ext) hm2).mono ?_); rintro e w2 ⟨B3, m3, d3, rfl, MC⟩; obtain rfl : N3 = m3 := (by have h := MC.len 0 rfl; rw [flat_length Row.cells_length] at h; have h2 := HN.out; omega); replace M := Lib.hid (M.out.on MC.ext); clear MC) | fail)
  simp only [HWN.out, dg]
  go_wp2_with fail
  refine Mine.region_head M.out 7 (by kernel_rfl) (by kernel_rfl) ?_
  intro w' M'
  replace M := Lib.hid M'
  clear M'
  refine HQ.take (i := 0) rfl (by kernel_rfl) (by kernel_rfl) (by kernel_rfl) (by omega) rfl (fun _ _ _ _ h => h) ?_
  intro K hK
  (first | (refine Mine.rd_get _ _ rfl 1 _ rfl rfl _ rfl _ (by first | exact Try.underlying3 | exact Try.underlying22 | exact Try.underlying23) (by rfl) ?_; (try simp only [Act.put, List.setIfInBounds_toArray, List.set_cons_zero, List.set_cons_succ, List.drop_succ_cons, List.drop_zero, List.take_succ_cons, List.take_zero, putAt, ints_set, ints_push, List.getElem_toArray, List.getElem_cons_zero, List.getElem_cons_succ]); go_big_quiet_on) | (unfold Reads; apply Exists.intro; refine ⟨fun wq hq => ?_, ?_⟩; (clear hq; go_simp; first | done | rfl); (try simp only [Act.put, List.setIfInBounds_toArray, List.set_cons_succ, List.set_cons_zero]); go_big_quiet_on))
  refine HQ.take (i := 1) rfl (by kernel_rfl) (by kernel_rfl) (by kernel_rfl) (by omega) rfl (fun _ _ _ _ h => h) ?_
  intro K hK
  (first | (refine Mine.rd_get _ _ rfl 1 _ rfl rfl _ rfl _ (by first | exact Try.underlying3 | exact Try.underlying22 | exact Try.underlying23) (by rfl) ?_; (try simp only [Act.put, List.setIfInBounds_toArray, List.set_cons_zero, List.set_cons_succ, List.drop_succ_cons, List.drop_zero, List.take_succ_cons, List.take_zero, putAt, ints_set, ints_push, List.getElem_toArray, List.getElem_cons_zero, List.getElem_cons_succ]); go_big_quiet_on) | (unfold Reads; apply Exists.intro; refine ⟨fun wq hq => ?_, ?_⟩; (clear hq; go_simp; first | done | rfl); (try simp only [Act.put, List.setIfInBounds_toArray, List.set_cons_succ, List.set_cons_zero]); go_big_quiet_on))
  refine HQ.take (i := 3) rfl (by kernel_rfl) (by kernel_rfl) (by kernel_rfl) (by omega) rfl (fun _ _ _ _ h => h) ?_
  intro K hK
  (first | (refine Mine.rd_get _ _ rfl 1 _ rfl rfl _ rfl _ (by first | exact Try.underlying3 | exact Try.underlying22 | exact Try.underlying23) (by rfl) ?_; (try simp only [Act.put, List.setIfInBounds_toArray, List.set_cons_zero, List.set_cons_succ, List.drop_succ_cons, List.drop_zero, List.take_succ_cons, List.take_zero, putAt, ints_set, ints_push, List.getElem_toArray, List.getElem_cons_zero, List.getElem_cons_succ]); go_big_quiet_on) | (unfold Reads; apply Exists.intro; refine ⟨fun wq hq => ?_, ?_⟩; (clear hq; go_simp; first | done | rfl); (try simp only [Act.put, List.setIfInBounds_toArray, List.set_cons_succ, List.set_cons_zero]); go_big_quiet_on))
  refine HQ.take (i := 4) rfl (by kernel_rfl) (by kernel_rfl) (by kernel_rfl) (by omega) rfl (fun _ _ _ _ h => h) ?_
  intro K hK
  (first | (refine Mine.rd_get _ _ rfl 1 _ rfl rfl _ rfl _ (by first | exact Try.underlying3 | exact Try.underlying22 | exact Try.underlying23) (by rfl) ?_; (try simp only [Act.put, List.setIfInBounds_toArray, List.set_cons_zero, List.set_cons_succ, List.drop_succ_cons, List.drop_zero, List.take_succ_cons, List.take_zero, putAt, ints_set, ints_push, List.getElem_toArray, List.getElem_cons_zero, List.getElem_cons_succ]); go_big_quiet_on) | (unfold Reads; apply Exists.intro; refine ⟨fun wq hq => ?_, ?_⟩; (clear hq; go_simp; first | done | rfl); (try simp only [Act.put, List.setIfInBounds_toArray, List.set_cons_succ, List.set_cons_zero]); go_big_quiet_on))
  refine HQ.noisy (rs := [2, 6]) (by kernel_rfl) (by simp) (AllG.cons rfl (by omega) (fun K hK => ?_) (AllG.cons rfl (by omega) (fun K hK => ?_) AllG.nil))
  go_simp
  (go_at_call 46; (refine (l15Ints_any A0 n0 c0 l0 _ S0 (H0.out.ext M.out.ext) hm0).mono ?_); rintro e w2 ⟨B0, d0, rfl, o0, x0⟩)
  replace M := Lib.hid (M.out.own o0 x0)
  clear o0 x0
  refine hK.out _ _ (M.out.tail) ?_
  clear hK K
  (try simp only [Act.put, List.setIfInBounds_toArray, List.set_cons_succ, List.set_cons_zero])
  refine HQ.take (i := 5) rfl (by kernel_rfl) (by kernel_rfl) (by kernel_rfl) (by omega) rfl (fun _ _ _ _ h => h) ?_
  intro K hK
  (first | (unfold Reads; apply Exists.intro; refine ⟨fun wq hq => ?_, ?_⟩; (clear hq; go_simp; first | done | rfl); (try simp only [Act.put, List.setIfInBounds_toArray, List.set_cons_succ, List.set_cons_zero]); go_big_quiet_on))
  refine HQ.noisy (rs := [6]) (by kernel_rfl) (by simp) (AllG.cons rfl (by omega) (fun K hK => ?_) AllG.nil)
  go_simp
  replace M := Lib.hid (M.out.box 25 #[.slice none 0 0, .int .i64 0, .slice none 0 0])
  refine hK.out _ _ (M.out.tail.tail) ?_
  clear hK K
  (try simp only [Act.put, List.setIfInBounds_toArray, List.set_cons_succ, List.set_cons_zero])
  generalize w2.heap.size = GU at M ⊢
  refine HQ.end_ (by kernel_rfl) ?_
  simp only [List.drop_succ_cons, List.drop_zero]
  rotate_left
  go_simp
  replace M := Lib.hid (M.out.box 25 #[.slice none 0 0, .int .i64 0, .slice none 0 0])
  refine hK.out _ _ (M.out.tail) ?_
  clear hK K
  (try simp only [Act.put, List.setIfInBounds_toArray, List.set_cons_succ, List.set_cons_zero])
  generalize w'.heap.size = GU at M ⊢
  refine HQ.noisy (rs := [2]) (by kernel_rfl) (by simp) (AllG.cons rfl (by omega) (fun K hK => ?_) AllG.nil)
  go_simp
  (go_at_call 46; (refine (l15Ints_any A0 n0 c0 l0 _ S0 (H0.out.ext M.out.ext) hm0).mono ?_); rintro e w2 ⟨B0, d0, rfl, o0, x0⟩)
  replace M := Lib.hid (M.out.own o0 x0).flip
  clear o0 x0
  refine hK.out _ _ (M.out.tail.tail) ?_
  clear hK K
  (try simp only [Act.put, List.setIfInBounds_toArray, List.set_cons_succ, List.set_cons_zero])
  refine HQ.take (i := 5) rfl (by kernel_rfl) (by kernel_rfl) (by kernel_rfl) (by omega) rfl (fun _ _ _ _ h => h) ?_
  intro K hK
  (first | (unfold Reads; apply Exists.intro; refine ⟨fun wq hq => ?_, ?_⟩; (clear hq; go_simp; first | done | rfl); (try simp only [Act.put, List.setIfInBounds_toArray, List.set_cons_succ, List.set_cons_zero]); go_big_quiet_on))
  refine HQ.end_ (by kernel_rfl) ?_
  simp only [List.drop_succ_cons, List.drop_zero]
  rotate_left
  all_goals (
    go_wp2_with (first | ((with_reducible show wpList _ _ _ (⟨_, _, _, _, _, none⟩ :: _) _ _); first | (refine Mine.wp_sets M.out rfl 25 _ _ rfl rfl 0 _ rfl rfl _ rfl (Nat.le_of_ble_eq_true rfl) (by simp [Value.oneCell']) (by kernel_rfl) ?_; intro w' M'; (try simp only [Act.put, List.setIfInBounds_toArray, List.set_cons_zero, List.set_cons_succ, List.drop_succ_cons, List.drop_zero, List.take_succ_cons, List.take_zero, putAt, ints_set, ints_push, List.getElem_toArray, List.getElem_cons_zero, List.getElem_cons_succ] at M'); replace M := Lib.hid M'; clear M')))
    have M2 := Lib.hid (M.out.nilAt [_, _] 73 3)
    simp only [List.cons_append, List.nil_append] at M2
    clear M dg dst
    go_loopw [9] (fun ii wr => ∃ (k m d : Nat) (A : Option Addr), k ≤ 8 ∧ ii = .int .i64 k ∧ Hid (Mine w wr [.box GU 25 (#[.slice B0 n0 d0, .int .i64 f1, .slice A m d] : Array Value), .row 3 1 B0 n0 d0 (ints l0), .row 73 3 A m d ((mergeTo l1 st l2 k).flatMap Ver.cells), .box gr 25 (#[.slice none 0 0, .int .i64 0, .slice none 0 0] : Array Value), .box gp 25 (#[.slice A0 n0 c0, .int .i64 f1, .slice A1 n1 c1] : Array Value)])) (fun ii _ => 8 - (intOf ii).toNat)
    case atStart => exact ⟨0, 0, 0, none, Nat.zero_le _, rfl, M2⟩
    case round =>
      clear M2
      obtain ⟨k, m, d, A, hk, rfl, M⟩ := hrel
      by_cases hlt : k < 8
      rotate_left
      · obtain rfl : k = 8 := by omega
        go_wp2_with (first | ((with_reducible show wpList _ _ _ (⟨_, _, _, _, _, none⟩ :: _) _ _); first | (refine Mine.wp_gets M.out rfl 25 _ rfl 0 _ 3 rfl rfl (Nat.le_of_ble_eq_true rfl) _ Try.underlying25 (by rfl) (by kernel_rfl) ?_; (try simp only [Act.put, List.setIfInBounds_toArray, List.set_cons_zero, List.set_cons_succ, List.drop_succ_cons, List.drop_zero, List.take_succ_cons, List.take_zero, putAt, ints_set, ints_push, List.getElem_toArray, List.getElem_cons_zero, List.getElem_cons_succ])) | (refine Mine.wp_sets M.out rfl 25 _ _ rfl rfl 3 _ rfl rfl _ rfl (Nat.le_of_ble_eq_true rfl) (by simp [Value.oneCell']) (by kernel_rfl) ?_; intro w' M'; (try simp only [Act.put, List.setIfInBounds_toArray, List.set_cons_zero, List.set_cons_succ, List.drop_succ_cons, List.drop_zero, List.take_succ_cons, List.take_zero, putAt, ints_set, ints_push, List.getElem_toArray, List.getElem_cons_zero, List.getElem_cons_succ] at M'); replace M := Lib.hid M'; clear M')))
        refine bodyPost_ret (M.out.results_cell2 Try.results33 _ 3 rfl rfl _ Try.underlying25 (by rfl) (by kernel_rfl)) rfl ?_
        obtain ⟨e1, e2⟩ := HT.out
        rw [e1, e2]
        exact ⟨_, _, _, _, _, _, rfl, M.out.end5⟩
      have hk8 : (k : Int) < 8 := by omega
      have HK8 := Lib.hid hlt
      clear hlt
      go_wp2
      go_loopw [10] (fun jj wr => ∃ (j m d : Nat) (A : Option Addr), j ≤ n1 ∧ jj = .int .i64 j ∧ Hid (Mine w wr [.box GU 25 (#[.slice B0 n0 d0, .int .i64 f1, .slice A m d] : Array Value), .row 3 1 B0 n0 d0 (ints l0), .row 73 3 A m d ((mid l1 st l2 k j).flatMap Ver.cells), .box gr 25 (#[.slice none 0 0, .int .i64 0, .slice none 0 0] : Array Value), .box gp 25 (#[.slice A0 n0 c0, .int .i64 f1, .slice A1 n1 c1] : Array Value)])) (fun jj _ => n1 - (intOf jj).toNat)
      case atStart => exact ⟨0, m, d, A, Nat.zero_le _, rfl, by rw [mid_zero]; exact M⟩
      case round =>
        clear M
        obtain ⟨j, m, d, A, hj, rfl, M⟩ := hrel
        have hmb : m ≤ 1000 := by have h1 := M.out.len 2 rfl; rw [flat_length Ver.cells_length] at h1; have h2 := mid_len (l := l1) (st := st) (ps := l2) (k := k) (j := j) H60.out hk; omega
        by_cases hlj : (j : Int) < (n1 : Int)
        rotate_left
        · have ej : j = l1.length := by rw [HL1.out]; omega
          have EM : Hid (mergeTo l1 st l2 (k + 1) = mid l1 st l2 k j ++ newOf st l2 k) := by show _ = _; rw [ej]; exact mid_end
          clear ej
          go_wp2_with (first | ((with_reducible show wpList _ _ _ (⟨_, _, _, _, _, none⟩ :: _) _ _); first | (refine Mine.wp_get M.out rfl _ _ rfl 4 _ rfl rfl _ rfl _ (by first | exact Try.underlying3 | exact Try.underlying22 | exact Try.underlying23) (by rfl) ?_; (try simp only [Act.put, List.setIfInBounds_toArray, List.set_cons_zero, List.set_cons_succ, List.drop_succ_cons, List.drop_zero, List.take_succ_cons, List.take_zero, putAt, ints_set, ints_push, List.getElem_toArray, List.getElem_cons_zero, List.getElem_cons_succ]))))
          go_at_call 68
          (with_reducible refine (spec_Last A2 n2 c2 l2 (k : Int) _ S2 (H2.out.ext M.out.ext) hm2).mono ?_)
          rintro e w2 ⟨rfl, x2⟩
          replace M := Lib.hid (M.out.on x2)
          clear x2
          cases hl : lastV l2 (k : Int) with
          | none =>
            have EN : Hid (mergeTo l1 st l2 (k + 1) = mid l1 st l2 k j) := by show _ = _; rw [EM.out, new_none hl, List.append_nil]
            clear hl EM
            go_wp2
            go_roundw
            case rel => exact ⟨k + 1, m, d, A, HK8.out, by go_num, by rw [EN.out]; exact M⟩
            case measure => have := HK8.out; simp [intOf]; omega
          | some v =>
            have EN : Hid (mergeTo l1 st l2 (k + 1) = mid l1 st l2 k j ++ [(⟨(k : Int), st, v⟩ : Ver)]) := by show _ = _; rw [EM.out, new_some hl]
            clear hl EM
            go_wp2_with (first | (at_builtin; refine Mine.wp_push M.out rfl _ _ 23 rfl 73 _ _ _ Try.underlying23 Try.infoVer rfl (by omega) 2 rfl rfl _ _ rfl rfl rfl (by simp [Value.oneCell']) (by omega) (by unfold maxLen; omega) ?_; intro A2 c2 w' M'; (try simp only [Act.put, List.setIfInBounds_toArray, List.set_cons_zero, List.set_cons_succ, List.drop_succ_cons, List.drop_zero, List.take_succ_cons, List.take_zero, putAt, ints_set, ints_push, List.getElem_toArray, List.getElem_cons_zero, List.getElem_cons_succ] at M'); replace M := Lib.hid M'; clear M') | ((with_reducible show wpList _ _ _ (⟨_, _, _, _, _, none⟩ :: _) _ _); first | (refine Mine.wp_get M.out rfl _ _ rfl 0 _ rfl rfl _ rfl _ (by first | exact Try.underlying3 | exact Try.underlying22 | exact Try.underlying23) (by rfl) ?_; (try simp only [Act.put, List.setIfInBounds_toArray, List.set_cons_zero, List.set_cons_succ, List.drop_succ_cons, List.drop_zero, List.take_succ_cons, List.take_zero, putAt, ints_set, ints_push, List.getElem_toArray, List.getElem_cons_zero, List.getElem_cons_succ])) | (refine Mine.wp_set M.out rfl _ _ _ rfl rfl 0 _ rfl rfl _ (by (conv => lhs; whnf) <;> rfl) (Nat.le_of_ble_eq_true rfl) (by rfl) (by kernel_rfl) ?_; intro w' M'; (try simp only [Act.put, List.setIfInBounds_toArray, List.set_cons_zero, List.set_cons_succ, List.drop_succ_cons, List.drop_zero, List.take_succ_cons, List.take_zero, putAt, ints_set, ints_push, List.getElem_toArray, List.getElem_cons_zero, List.getElem_cons_succ] at M'); replace M := Lib.hid M'; clear M')))
            rw [ver_snoc, ← EN.out] at M
            go_roundw
            case rel => exact ⟨k + 1, m + 1, _, _, HK8.out, by go_num, M⟩
            case measure => have := HK8.out; simp [intOf]; omega
        obtain ⟨bA, oA, x, rfl, hx, a0, a1, a2⟩ := ver_at (H1.out.ext M.out.ext) (k := j) (by omega)
        obtain ⟨x0, x1, x2⟩ := x
        simp only at a0 a1 a2
        have HX := Lib.hid hx
        clear hx
        by_cases h0 : x0 = (k : Int)
        rotate_left
        · have b1 : (x0 == (k : Int)) = false := by simpa using h0
          have HK := Lib.hid (mid_no (st := st) (ps := l2) HX.out h0)
          clear h0
          go_wp2_with (first | ((with_reducible show wpList _ _ _ (⟨_, _, _, _, _, none⟩ :: _) _ _); first | (refine Mine.wp_get M.out rfl _ _ rfl 4 _ rfl rfl _ rfl _ (by first | exact Try.underlying3 | exact Try.underlying22 | exact Try.underlying23) (by rfl) ?_; (try simp only [Act.put, List.setIfInBounds_toArray, List.set_cons_zero, List.set_cons_succ, List.drop_succ_cons, List.drop_zero, List.take_succ_cons, List.take_zero, putAt, ints_set, ints_push, List.getElem_toArray, List.getElem_cons_zero, List.getElem_cons_succ]))))
          go_roundw
          case rel => exact ⟨j + 1, m, d, A, by omega, by go_num, by rw [HK.out]; exact M⟩
          case measure => simp [intOf]; omega
        have b1 : (x0 == (k : Int)) = true := by simpa using h0
        have HK := Lib.hid (mid_yes (st := st) (ps := l2) HX.out h0)
        have hj1 : Hid (j + 1 ≤ n1) := by show _ ≤ _; omega
        clear h0
        go_wp2_with (first | ((with_reducible show wpList _ _ _ (⟨_, _, _, _, _, none⟩ :: _) _ _); first | (refine Mine.wp_get M.out rfl _ _ rfl 4 _ rfl rfl _ rfl _ (by first | exact Try.underlying3 | exact Try.underlying22 | exact Try.underlying23) (by rfl) ?_; (try simp only [Act.put, List.setIfInBounds_toArray, List.set_cons_zero, List.set_cons_succ, List.drop_succ_cons, List.drop_zero, List.take_succ_cons, List.take_zero, putAt, ints_set, ints_push, List.getElem_toArray, List.getElem_cons_zero, List.getElem_cons_succ]))))
        have q2 := (M.out.box_at 0 rfl).cell 2
        have p2 := (M.out.box_at 4 rfl).cell 2
        have hgl := (M.out.box_at 0 rfl).lt
        have hgl2 := (M.out.box_at 4 rfl).lt
        simp only [List.getElem?_toArray, List.getElem?_cons_zero, List.getElem?_cons_succ] at q2 p2
        go_region_law (refine Mine.step_push (Mine.dr M.out) (by rfl) _ _ _ (by rfl) 73 _ _ _ Try.underlying23 Try.infoVer (by rfl) (by omega) 2 (by rfl) (by rfl) [.int .i64 x0, .int .i64 x1, .int .i64 x2] _ (by rfl) (by rfl) (by rfl) (by simp [Value.oneCell']) (by omega) (by unfold maxLen; omega) ?_; intro A3 c3 w' M'; (try simp only [Act.put, List.setIfInBounds_toArray, List.set_cons_zero, List.set_cons_succ, List.drop_succ_cons, List.drop_zero, List.take_succ_cons, List.take_zero, putAt, ints_set, ints_push, List.getElem_toArray, List.getElem_cons_zero, List.getElem_cons_succ] at M'); replace M := Lib.hid M'; clear M'; have cc := (M.out.box_at 0 rfl).cell 2; simp only [List.getElem?_toArray, List.getElem?_cons_zero, List.getElem?_cons_succ] at cc; have ff := (M.out.box_at 0 rfl).frozen 2)
        all_goals (
          clear q2 p2 cc ff hgl hgl2 a0 a1 a2
          replace M := Lib.hid (M.out.set 0 rfl 2 (.slice A3 (m + 1) c3))
          simp only [Act.put, List.setIfInBounds_toArray, List.set_cons_zero, List.set_cons_succ, List.drop_succ_cons, List.drop_zero, List.take_succ_cons, List.take_zero, putAt, ints_set, ints_push, List.getElem_toArray, List.getElem_cons_zero, List.getElem_cons_succ] at M
          rw [ver_snoc, ← HK.out] at M
          go_wp2
          go_roundw
          case rel => exact ⟨j + 1, m + 1, c3, A3, hj1.out, by go_num, M⟩
          case measure => have := hj1.out; simp [intOf]; omega))
end Go.Proofs.Ytnhkjgnfjphllaa
