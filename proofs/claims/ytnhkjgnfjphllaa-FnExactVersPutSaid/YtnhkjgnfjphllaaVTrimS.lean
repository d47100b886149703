/- VersTrim of the reference. No condition but lengths. -/
import Derived.Test.YtnhkjgnfjphllaaVTrim
import Derived.Deep.RegionLaw
namespace Go.Proofs.Ytnhkjgnfjphllaa
open Go.RowKit Go.Deep
set_option linter.unusedSimpArgs false
set_option linter.unusedVariables false

theorem ver_at {w : World} {S : Nat → Prop} {A : Option Addr} {n : Nat} {l : List Ver} (hs : Sl w S 3 A n (l.flatMap Ver.cells)) {k : Nat} (hk : k < n) : ∃ b o x, A = some ⟨b, o, none⟩ ∧ l[k]? = some x ∧ w.cell? ⟨b, o + k * 3, none⟩ = some (.int .i64 x.cell) ∧ w.cell? ⟨b, o + k * 3 + 1, none⟩ = some (.int .i64 x.stamp) ∧ w.cell? ⟨b, o + k * 3 + 2, none⟩ = some (.int .i64 x.val) := by
  obtain ⟨b, o, x, e, -, hx, hc⟩ := hs.flat_at Ver.cells_length (by omega) hk
  exact ⟨b, o, x, e, hx, hc 0 (by omega), hc 1 (by omega), hc 2 (by omega)⟩
theorem ver_push (l : List Ver) (a b c : Int) : l.flatMap Ver.cells ++ [.int .i64 a, .int .i64 b, .int .i64 c] = (l ++ [(⟨a, b, c⟩ : Ver)]).flatMap Ver.cells := by simp [Ver.cells]
theorem Mine.nilAt {b w : World} {rs₂ : List Res} (rs₁ : List Res) (M : Mine b w (rs₁ ++ rs₂)) (e : TypeId) (size : Nat) : Mine b w (rs₁ ++ .row e size none 0 0 [] :: rs₂) := (M.nil e size).perm List.perm_middle.symm
theorem Mine.end5 {b w : World} {p q r s t : Res} (M : Mine b w [p, q, r, s, t]) : Mine b w [q, r] := M.sub (.cons p (.cons_cons q (.cons_cons r (.cons s (.cons t .slnil)))))

set_option maxRecDepth 4000 in
set_option maxHeartbeats 16000000 in
theorem spec_VersTrim_m (n : Int) (f1 : Int) (A0 : Option Addr) (n0 c0 : Nat) (l0 : List Int) (A1 : Option Addr) (n1 c1 : Nat) (l1 : List Ver) (w : World) (S0 : Nat → Prop) (hs0 : Sl w S0 1 A0 n0 (ints l0)) (hm0 : n0 ≤ 1048576) (S1 : Nat → Prop) (hs1 : Sl w S1 3 A1 n1 (l1.flatMap Ver.cells)) (hm1 : n1 ≤ 1048576) :
    Calls Try.prog 30 #[.agg #[.slice A0 n0 c0, .int .i64 f1, .slice A1 n1 c1], .int .i64 n] w fun e w' => ∃ B0 m0 d0 B1 m1 d1, e = .returned (.tuple #[.agg #[.slice B0 m0 d0, .int .i64 (trimF l0 f1 l1 n), .slice B1 m1 d1], .bool (trimOk l0 f1 l1 n)]) ∧ Mine w w' [.row 3 1 B0 m0 d0 (ints (trimB l0 f1 l1 n)), .row 73 3 B1 m1 d1 ((trimL l0 f1 l1 n).flatMap Ver.cells)] := by
  have H0 := Lib.hid hs0
  have H1 := Lib.hid hs1
  have HL1 := Lib.hid (hs1.flen Ver.cells_length (by omega))
  clear hs0 hs1
  have M := Lib.hid (Mine.refl w)
  by_cases hv : versOk l0 f1 l1 = true
  rotate_left
  · skip
    have HT := Lib.hid (trim_no (b := l0) (f := f1) (l := l1) (n := n) fun h => hv h.1)
    replace hv : versOk l0 f1 l1 = false := by simpa using hv
    go_enter Try.func30, Try.ntmps30
    go_wp2_with (first | (refine Mine.wp_box M.out rfl 25 _ rfl _ rfl ?_; intro gp w' M'; (try simp only [Act.put, List.setIfInBounds_toArray, List.set_cons_zero, List.set_cons_succ, List.drop_succ_cons, List.drop_zero, List.take_succ_cons, List.take_zero, putAt, ints_set, ints_push] at M'); replace M := Lib.hid M'; clear M'; (try simp only [Act.put, List.setIfInBounds_toArray, List.set_cons_zero, List.set_cons_succ, List.drop_succ_cons, List.drop_zero, List.take_succ_cons, List.take_zero, putAt, ints_set, ints_push])) | (refine Mine.wp_alloc (rs := [_]) M.out rfl 25 rfl (.agg #[.slice none 0 0, .int .i64 0, .slice none 0 0]) (by kernel_rfl) ?_; intro gr w' M'; (try simp only [Value.cells, Act.put, List.setIfInBounds_toArray, List.set_cons_zero, List.set_cons_succ, List.drop_succ_cons, List.drop_zero, List.take_succ_cons, List.take_zero, putAt, ints_set, ints_push] at M'); replace M := Lib.hid M'; clear M'; (try simp only [Act.put, List.setIfInBounds_toArray, List.set_cons_zero, List.set_cons_succ, List.drop_succ_cons, List.drop_zero, List.take_succ_cons, List.take_zero, putAt, ints_set, ints_push])) | (go_at_call 62; (with_reducible refine (l23Copy_m f1 A0 n0 c0 l0 A1 n1 c1 l1 _ S0 (H0.out.ext M.out.ext) hm0 S1 (H1.out.ext M.out.ext) hm1).mono ?_); rintro e w2 ⟨B0, d0, B1, d1, rfl, MC⟩; replace M := Lib.hid (M.out.call MC); simp only [List.cons_append, List.nil_append] at M; clear MC) | (go_at_call 20; (with_reducible refine (spec_VersOk f1 A0 n0 c0 l0 A1 n1 c1 l1 _ S0 (H0.out.ext M.out.ext) hm0 S1 (H1.out.ext M.out.ext) hm1).mono ?_); rintro e w2 ⟨rfl, x2⟩; replace M := Lib.hid (M.out.on x2); clear x2; (try rw [hv])) | (go_at_call 54; (with_reducible refine (l1In_any n f1 1000000 _).mono ?_); rintro e w2 ⟨rfl, rfl⟩) | (refine Mine.wp_gets M.out rfl 25 _ rfl 1 _ 3 rfl rfl (Nat.le_of_ble_eq_true rfl) _ Try.underlying25 (by rfl) (by kernel_rfl) ?_; (try simp only [Act.put, List.setIfInBounds_toArray, List.set_cons_zero, List.set_cons_succ, List.drop_succ_cons, List.drop_zero, List.take_succ_cons, List.take_zero, putAt, ints_set, ints_push])) | (refine Mine.wp_getg M.out (by rfl) _ _ rfl 1 _ rfl rfl _ rfl _ (by first | exact Try.underlying3 | exact Try.underlying22 | exact Try.underlying23) (by rfl) ?_; (try simp only [Act.put, List.setIfInBounds_toArray, List.set_cons_zero, List.set_cons_succ, List.drop_succ_cons, List.drop_zero, List.take_succ_cons, List.take_zero, putAt, ints_set, ints_push])) | (refine Mine.wp_sets M.out rfl 25 _ _ rfl rfl 2 _ rfl rfl _ rfl (Nat.le_of_ble_eq_true rfl) (by simp [Value.oneCell']) (by kernel_rfl) ?_; intro w' M'; (try simp only [Act.put, List.setIfInBounds_toArray, List.set_cons_zero, List.set_cons_succ, List.drop_succ_cons, List.drop_zero, List.take_succ_cons, List.take_zero, putAt, ints_set, ints_push] at M'); replace M := Lib.hid M'; clear M'))
    refine bodyPost_ret (M.out.results_cell2 Try.results30 _ 2 rfl rfl _ Try.underlying25 (by rfl) (by kernel_rfl)) rfl ?_
    obtain ⟨e1, e2, e3, e4⟩ := HT.out
    rw [e1, e2, e3, e4]
    exact ⟨_, _, _, _, _, _, rfl, M.out.two⟩
  by_cases hn : f1 ≤ n ∧ n ≤ 1000000
  rotate_left
  · skip
    have HT := Lib.hid (trim_no (b := l0) (f := f1) (l := l1) (n := n) fun h => hn h.2)
    have dn : decide (f1 ≤ n ∧ n ≤ 1000000) = false := decide_eq_false hn
    go_enter Try.func30, Try.ntmps30
    go_wp2_with (first | (refine Mine.wp_box M.out rfl 25 _ rfl _ rfl ?_; intro gp w' M'; (try simp only [Act.put, List.setIfInBounds_toArray, List.set_cons_zero, List.set_cons_succ, List.drop_succ_cons, List.drop_zero, List.take_succ_cons, List.take_zero, putAt, ints_set, ints_push] at M'); replace M := Lib.hid M'; clear M'; (try simp only [Act.put, List.setIfInBounds_toArray, List.set_cons_zero, List.set_cons_succ, List.drop_succ_cons, List.drop_zero, List.take_succ_cons, List.take_zero, putAt, ints_set, ints_push])) | (refine Mine.wp_alloc (rs := [_]) M.out rfl 25 rfl (.agg #[.slice none 0 0, .int .i64 0, .slice none 0 0]) (by kernel_rfl) ?_; intro gr w' M'; (try simp only [Value.cells, Act.put, List.setIfInBounds_toArray, List.set_cons_zero, List.set_cons_succ, List.drop_succ_cons, List.drop_zero, List.take_succ_cons, List.take_zero, putAt, ints_set, ints_push] at M'); replace M := Lib.hid M'; clear M'; (try simp only [Act.put, List.setIfInBounds_toArray, List.set_cons_zero, List.set_cons_succ, List.drop_succ_cons, List.drop_zero, List.take_succ_cons, List.take_zero, putAt, ints_set, ints_push])) | (go_at_call 62; (with_reducible refine (l23Copy_m f1 A0 n0 c0 l0 A1 n1 c1 l1 _ S0 (H0.out.ext M.out.ext) hm0 S1 (H1.out.ext M.out.ext) hm1).mono ?_); rintro e w2 ⟨B0, d0, B1, d1, rfl, MC⟩; replace M := Lib.hid (M.out.call MC); simp only [List.cons_append, List.nil_append] at M; clear MC) | (go_at_call 20; (with_reducible refine (spec_VersOk f1 A0 n0 c0 l0 A1 n1 c1 l1 _ S0 (H0.out.ext M.out.ext) hm0 S1 (H1.out.ext M.out.ext) hm1).mono ?_); rintro e w2 ⟨rfl, x2⟩; replace M := Lib.hid (M.out.on x2); clear x2; (try rw [hv])) | (go_at_call 54; (with_reducible refine (l1In_any n f1 1000000 _).mono ?_); rintro e w2 ⟨rfl, rfl⟩) | (refine Mine.wp_gets M.out rfl 25 _ rfl 1 _ 3 rfl rfl (Nat.le_of_ble_eq_true rfl) _ Try.underlying25 (by rfl) (by kernel_rfl) ?_; (try simp only [Act.put, List.setIfInBounds_toArray, List.set_cons_zero, List.set_cons_succ, List.drop_succ_cons, List.drop_zero, List.take_succ_cons, List.take_zero, putAt, ints_set, ints_push])) | (refine Mine.wp_getg M.out (by rfl) _ _ rfl 1 _ rfl rfl _ rfl _ (by first | exact Try.underlying3 | exact Try.underlying22 | exact Try.underlying23) (by rfl) ?_; (try simp only [Act.put, List.setIfInBounds_toArray, List.set_cons_zero, List.set_cons_succ, List.drop_succ_cons, List.drop_zero, List.take_succ_cons, List.take_zero, putAt, ints_set, ints_push])) | (refine Mine.wp_sets M.out rfl 25 _ _ rfl rfl 2 _ rfl rfl _ rfl (Nat.le_of_ble_eq_true rfl) (by simp [Value.oneCell']) (by kernel_rfl) ?_; intro w' M'; (try simp only [Act.put, List.setIfInBounds_toArray, List.set_cons_zero, List.set_cons_succ, List.drop_succ_cons, List.drop_zero, List.take_succ_cons, List.take_zero, putAt, ints_set, ints_push] at M'); replace M := Lib.hid M'; clear M'))
    refine bodyPost_ret (M.out.results_cell2 Try.results30 _ 2 rfl rfl _ Try.underlying25 (by rfl) (by kernel_rfl)) rfl ?_
    obtain ⟨e1, e2, e3, e4⟩ := HT.out
    rw [e1, e2, e3, e4]
    exact ⟨_, _, _, _, _, _, rfl, M.out.two⟩
  have HT := Lib.hid (trim_yes (b := l0) (f := f1) (l := l1) (n := n) ⟨hv, hn⟩)
  have dn : decide (f1 ≤ n ∧ n ≤ 1000000) = true := decide_eq_true hn
  go_enter Try.func30, Try.ntmps30
  go_wp2_with (first | (refine Mine.wp_box M.out rfl 25 _ rfl _ rfl ?_; intro gp w' M'; (try simp only [Act.put, List.setIfInBounds_toArray, List.set_cons_zero, List.set_cons_succ, List.drop_succ_cons, List.drop_zero, List.take_succ_cons, List.take_zero, putAt, ints_set, ints_push] at M'); replace M := Lib.hid M'; clear M'; (try simp only [Act.put, List.setIfInBounds_toArray, List.set_cons_zero, List.set_cons_succ, List.drop_succ_cons, List.drop_zero, List.take_succ_cons, List.take_zero, putAt, ints_set, ints_push])) | (refine Mine.wp_alloc (rs := [_]) M.out rfl 25 rfl (.agg #[.slice none 0 0, .int .i64 0, .slice none 0 0]) (by kernel_rfl) ?_; intro gr w' M'; (try simp only [Value.cells, Act.put, List.setIfInBounds_toArray, List.set_cons_zero, List.set_cons_succ, List.drop_succ_cons, List.drop_zero, List.take_succ_cons, List.take_zero, putAt, ints_set, ints_push] at M'); replace M := Lib.hid M'; clear M'; (try simp only [Act.put, List.setIfInBounds_toArray, List.set_cons_zero, List.set_cons_succ, List.drop_succ_cons, List.drop_zero, List.take_succ_cons, List.take_zero, putAt, ints_set, ints_push])) | (go_at_call 27; (with_reducible refine (spec_VersState n f1 A0 n0 c0 l0 A1 n1 c1 l1 _ S0 (H0.out.ext M.out.ext) hm0 S1 (H1.out.ext M.out.ext) hm1).mono ?_); rintro e w2 ⟨B3, m3, d3, rfl, o3, x3⟩; replace M := Lib.hid (M.out.own o3 x3); clear o3 x3) | (refine Mine.wp_alloc M.out rfl 25 rfl (.agg #[.slice none 0 0, .int .i64 0, .slice none 0 0]) (by kernel_rfl) ?_; intro gu w' M'; (try simp only [Value.cells, Act.put, List.setIfInBounds_toArray, List.set_cons_zero, List.set_cons_succ, List.drop_succ_cons, List.drop_zero, List.take_succ_cons, List.take_zero, putAt, ints_set, ints_push] at M'); replace M := Lib.hid M'; clear M'; (try simp only [Act.put, List.setIfInBounds_toArray, List.set_cons_zero, List.set_cons_succ, List.drop_succ_cons, List.drop_zero, List.take_succ_cons, List.take_zero, putAt, ints_set, ints_push])) | (go_at_call 20; (with_reducible refine (spec_VersOk f1 A0 n0 c0 l0 A1 n1 c1 l1 _ S0 (H0.out.ext M.out.ext) hm0 S1 (H1.out.ext M.out.ext) hm1).mono ?_); rintro e w2 ⟨rfl, x2⟩; replace M := Lib.hid (M.out.on x2); clear x2; (try rw [hv])) | (go_at_call 54; (with_reducible refine (l1In_any n f1 1000000 _).mono ?_); rintro e w2 ⟨rfl, rfl⟩) | (refine Mine.wp_gets M.out rfl 25 _ rfl 1 _ 3 rfl rfl (Nat.le_of_ble_eq_true rfl) _ Try.underlying25 (by rfl) (by kernel_rfl) ?_; (try simp only [Act.put, List.setIfInBounds_toArray, List.set_cons_zero, List.set_cons_succ, List.drop_succ_cons, List.drop_zero, List.take_succ_cons, List.take_zero, putAt, ints_set, ints_push])) | (refine Mine.wp_getg M.out (by rfl) _ _ rfl 1 _ rfl rfl _ rfl _ (by first | exact Try.underlying3 | exact Try.underlying22 | exact Try.underlying23) (by rfl) ?_; (try simp only [Act.put, List.setIfInBounds_toArray, List.set_cons_zero, List.set_cons_succ, List.drop_succ_cons, List.drop_zero, List.take_succ_cons, List.take_zero, putAt, ints_set, ints_push])) | (refine Mine.wp_sets M.out rfl 25 _ _ rfl rfl 0 _ rfl rfl _ rfl (Nat.le_of_ble_eq_true rfl) (by simp [Value.oneCell']) (by kernel_rfl) ?_; intro w' M'; (try simp only [Act.put, List.setIfInBounds_toArray, List.set_cons_zero, List.set_cons_succ, List.drop_succ_cons, List.drop_zero, List.take_succ_cons, List.take_zero, putAt, ints_set, ints_push] at M'); replace M := Lib.hid M'; clear M'))
  have M2 := Lib.hid (M.out.nilAt [_, _] 73 3)
  simp only [List.cons_append, List.nil_append] at M2
  clear M
  go_loopw [7] (fun ii wr => ∃ (k m2 c2 : Nat) (A2 : Option Addr), k ≤ n1 ∧ ii = .int .i64 k ∧ m2 ≤ k ∧ Mine w wr [.box gu 25 #[.slice B3 m3 d3, .int .i64 n, .slice A2 m2 c2], .row 3 1 B3 m3 d3 (ints (versState l0 f1 l1 n)), .row 73 3 A2 m2 c2 ((keepN n (l1.take k)).flatMap Ver.cells), .box gr 25 #[.slice none 0 0, .int .i64 0, .slice none 0 0], .box gp 25 #[.slice A0 n0 c0, .int .i64 f1, .slice A1 n1 c1]]) (fun ii _ => n1 - (intOf ii).toNat)
  case atStart => exact ⟨0, 0, 0, none, Nat.zero_le _, rfl, Nat.zero_le _, M2.out⟩
  case round =>
    clear M2
    obtain ⟨k, m2, c2, A2, hk, rfl, hmk, M1⟩ := hrel
    have M := Lib.hid M1
    clear M1
    by_cases hlt : (k : Int) < (n1 : Int)
    rotate_left
    · have ek : Hid (k = n1) := by show k = n1; omega
      have EL : Hid (keepN n (l1.take k) = keepN n l1) := by show _ = _; rw [ek.out, ← HL1.out, List.take_length]
      go_wp2_with (first | (refine Mine.wp_get M.out rfl _ _ rfl 4 _ rfl rfl _ rfl _ (by first | exact Try.underlying3 | exact Try.underlying22 | exact Try.underlying23) (by rfl) ?_; (try simp only [Act.put, List.setIfInBounds_toArray, List.set_cons_zero, List.set_cons_succ, List.drop_succ_cons, List.drop_zero, List.take_succ_cons, List.take_zero, putAt, ints_set, ints_push])) | (refine Mine.wp_gets M.out rfl 25 _ rfl 0 _ 3 rfl rfl (Nat.le_of_ble_eq_true rfl) _ Try.underlying25 (by rfl) (by kernel_rfl) ?_; (try simp only [Act.put, List.setIfInBounds_toArray, List.set_cons_zero, List.set_cons_succ, List.drop_succ_cons, List.drop_zero, List.take_succ_cons, List.take_zero, putAt, ints_set, ints_push])) | (refine Mine.wp_sets M.out rfl 25 _ _ rfl rfl 3 _ rfl rfl _ rfl (Nat.le_of_ble_eq_true rfl) (by simp [Value.oneCell']) (by kernel_rfl) ?_; intro w' M'; (try simp only [Act.put, List.setIfInBounds_toArray, List.set_cons_zero, List.set_cons_succ, List.drop_succ_cons, List.drop_zero, List.take_succ_cons, List.take_zero, putAt, ints_set, ints_push] at M'); replace M := Lib.hid M'; clear M'))
      refine bodyPost_ret (M.out.results_cell2 Try.results30 _ 3 rfl rfl _ Try.underlying25 (by rfl) (by kernel_rfl)) rfl ?_
      obtain ⟨e1, e2, e3, e4⟩ := HT.out
      rw [e1, e2, e3, e4, ← EL.out]
      exact ⟨_, _, _, _, _, _, rfl, M.out.end5⟩
    obtain ⟨bA, oA, x, rfl, hx, a0, a1, a2⟩ := ver_at (H1.out.ext M.out.ext) (k := k) (by omega)
    obtain ⟨x0, x1, x2⟩ := x
    simp only at a0 a1 a2
    have HX := Lib.hid hx
    clear hx
    by_cases h0 : n < x1
    rotate_left
    · have b1 : decide (n < x1) = false := decide_eq_false h0
      have HK : Hid (keepN n (l1.take (k + 1)) = keepN n (l1.take k)) := keep_no HX.out (by show x1 ≤ n; omega)
      clear h0
      go_wp2_with (first | (refine Mine.wp_get M.out rfl _ _ rfl 4 _ rfl rfl _ rfl _ (by first | exact Try.underlying3 | exact Try.underlying22 | exact Try.underlying23) (by rfl) ?_; (try simp only [Act.put, List.setIfInBounds_toArray, List.set_cons_zero, List.set_cons_succ, List.drop_succ_cons, List.drop_zero, List.take_succ_cons, List.take_zero, putAt, ints_set, ints_push])))
      go_roundw
      case rel => exact ⟨k + 1, m2, c2, A2, by omega, by go_num, by omega, by rw [HK.out]; exact M.out⟩
      case measure => simp [intOf]; omega
    have b1 : decide (n < x1) = true := decide_eq_true h0
    have HK : Hid (keepN n (l1.take (k + 1)) = keepN n (l1.take k) ++ [(⟨x0, x1, x2⟩ : Ver)]) := keep_yes HX.out (by show ¬ x1 ≤ n; omega)
    have hm2b : m2 ≤ 1048576 := by omega
    have hmk1 : Hid (m2 + 1 ≤ k + 1) := by show _ ≤ _; omega
    have hk1 : Hid (k + 1 ≤ n1) := by show _ ≤ _; omega
    clear h0
    go_wp2_with (first | (refine Mine.wp_get M.out rfl _ _ rfl 4 _ rfl rfl _ rfl _ (by first | exact Try.underlying3 | exact Try.underlying22 | exact Try.underlying23) (by rfl) ?_; (try simp only [Act.put, List.setIfInBounds_toArray, List.set_cons_zero, List.set_cons_succ, List.drop_succ_cons, List.drop_zero, List.take_succ_cons, List.take_zero, putAt, ints_set, ints_push])))
    have q2 := (M.out.box_at 0 rfl).cell 2
    have p2 := (M.out.box_at 4 rfl).cell 2
    have hgl := (M.out.box_at 0 rfl).lt
    have hgl2 := (M.out.box_at 4 rfl).lt
    simp only [List.getElem?_toArray, List.getElem?_cons_zero, List.getElem?_cons_succ] at q2 p2
    go_region_law (refine Mine.step_push (Mine.dr M.out) (by rfl) _ _ _ (by rfl) 73 _ _ _ Try.underlying23 Try.infoVer (by rfl) (by omega) 2 (by rfl) (by rfl) [.int .i64 x0, .int .i64 x1, .int .i64 x2] _ (by rfl) (by rfl) (by rfl) (by simp [Value.oneCell']) (by omega) (by unfold maxLen; omega) ?_; intro A3 c3 w' M'; (try simp only [Act.put, List.setIfInBounds_toArray, List.set_cons_zero, List.set_cons_succ, List.drop_succ_cons, List.drop_zero, List.take_succ_cons, List.take_zero, putAt, ints_set, ints_push] at M'); replace M := Lib.hid M'; clear M'; have cc := (M.out.box_at 0 rfl).cell 2; simp only [List.getElem?_toArray, List.getElem?_cons_zero, List.getElem?_cons_succ] at cc; have ff := (M.out.box_at 0 rfl).frozen 2)
    all_goals (
      clear q2 p2 cc ff hgl hgl2 a0 a1 a2
      replace M := Lib.hid (M.out.set 0 rfl 2 (.slice A3 (m2 + 1) c3))
      simp only [Act.put, List.setIfInBounds_toArray, List.set_cons_zero, List.set_cons_succ, List.drop_succ_cons, List.drop_zero, List.take_succ_cons, List.take_zero, putAt, ints_set, ints_push] at M
      rw [ver_push, ← HK.out] at M
      go_wp2
      go_roundw
      case rel => exact ⟨k + 1, m2 + 1, c3, A3, hk1.out, by go_num, hmk1.out, M.out⟩
      case measure => have := hk1.out; simp [intOf]; omega)
end Go.Proofs.Ytnhkjgnfjphllaa
