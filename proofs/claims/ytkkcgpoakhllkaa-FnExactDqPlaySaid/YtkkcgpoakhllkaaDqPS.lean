/- The plays of program and reference. No condition but lengths. -/
import Derived.Test.YtkkcgpoakhllkaaDqPI
import Derived.Test.YtkkcgpoakhllkaaDqS3
import Derived.Test.YtkkcgpoakhllkaaDqOk
namespace Go.Proofs.Ytkkcgpoakhllkaa
open Go.RowKit Go.Deep
set_option linter.unusedSimpArgs false
set_option linter.unusedVariables false


set_option maxRecDepth 8000 in
set_option maxHeartbeats 32000000 in
theorem spec_DqPlay (t : Int) (A : Option Addr) (n c : Nat) (l : List DqAct) (w : World) (S : Nat → Prop) (hs : Sl w S 2 A n (l.flatMap DqAct.cells)) (hm : n ≤ 1048576) :
    Calls Try.prog 24 #[.int .i64 t, .slice A n c] w fun e w' => ∃ vs, e = .returned (.agg vs.toArray) ∧ DqV w w' vs (dqPlay t l) [] := by
  have HL := Lib.hid (hs.flen DqAct.cells_length (by omega))
  have HS := Lib.hid hs
  clear hs
  have M := Lib.hid (Mine.refl w)
  by_cases hok : (0 ≤ t ∧ t ≤ 3) ∧ l.length ≤ 300
  rotate_left
  · skip
    have HOK := Lib.hid (fun (w1 : World) (x : Ext w w1) => (spec_DqOk t A n c l w1 S (HS.out.ext x) hm).mono (fun e w2 h => (⟨by rw [h.1, dec_no hok], h.2⟩ : e = .returned (.bool false) ∧ Ext w1 w2)))
    go_enter Try.func24, Try.ntmps24
    go_wp2_with (first | (go_at_call 9; refine (HOK.out _ M.out.ext).mono ?_; rintro e w2 ⟨rfl, x2⟩; replace M := Lib.hid (M.out.on x2); clear x2) | (refine Mine.wp_alloc (rs := []) M.out rfl 42 rfl (.agg #[.int .i64 0, .int .i64 0, .int .i64 0, .slice none 0 0, .int .i64 0, .int .i64 0, .int .i64 0, .slice none 0 0, .slice none 0 0]) (by kernel_rfl) ?_; intro gr w' M'; (try simp only [Value.cells, Act.put, List.setIfInBounds_toArray, List.set_cons_zero, List.set_cons_succ, List.drop_succ_cons, List.drop_zero, List.take_succ_cons, List.take_zero, putAt, ints_set, ints_push] at M'); replace M := Lib.hid M'; clear M'; (try simp only [Act.put, List.setIfInBounds_toArray, List.set_cons_zero, List.set_cons_succ, List.drop_succ_cons, List.drop_zero, List.take_succ_cons, List.take_zero, putAt, ints_set, ints_push])) | (refine Mine.wp_sets M.out rfl 42 _ _ rfl rfl 0 _ rfl rfl _ rfl (Nat.le_of_ble_eq_true rfl) (by simp [Value.oneCell']) (by kernel_rfl) ?_; intro w' M'; (try simp only [Act.put, List.setIfInBounds_toArray, List.set_cons_zero, List.set_cons_succ, List.drop_succ_cons, List.drop_zero, List.take_succ_cons, List.take_zero, putAt, ints_set, ints_push] at M'); replace M := Lib.hid M'; clear M'))
    refine bodyPost_ret (M.out.results_cell Try.results24 _ 0 rfl rfl _ Try.underlying42 (by rfl) (by kernel_rfl)) rfl ?_
    have e : dqPlay t l = dzero := if_neg hok
    rw [e]
    exact ⟨_, rfl, _, _, _, _, _, _, _, _, _, rfl, ((M.out.tail.nil _ _).nil _ _).nil _ _⟩
  have HOK := Lib.hid (fun (w1 : World) (x : Ext w w1) => (spec_DqOk t A n c l w1 S (HS.out.ext x) hm).mono (fun e w2 h => (⟨by rw [h.1, dec_yes hok], h.2⟩ : e = .returned (.bool true) ∧ Ext w1 w2)))
  have ep : dqPlay t l = dplay t.toNat l l.length := if_pos hok
  obtain ⟨⟨ht0, ht3⟩, hl300⟩ := hok
  obtain ⟨T, rfl⟩ : ∃ T : Nat, t = (T : Int) := ⟨t.toNat, by omega⟩
  have HP := Lib.hid ep
  clear ep
  have hT : T ≤ 3 := by omega
  have hn300 : n ≤ 300 := by rw [← HL.out]; exact hl300
  have HI := Lib.hid (fun k (hk : k ≤ l.length) => inv_play T l k hk)
  go_enter Try.func24, Try.ntmps24
  go_wp2_with (first | (go_at_call 9; refine (HOK.out _ M.out.ext).mono ?_; rintro e w2 ⟨rfl, x2⟩; replace M := Lib.hid (M.out.on x2); clear x2) | (refine Mine.wp_alloc (rs := []) M.out rfl 42 rfl (.agg #[.int .i64 0, .int .i64 0, .int .i64 0, .slice none 0 0, .int .i64 0, .int .i64 0, .int .i64 0, .slice none 0 0, .slice none 0 0]) (by kernel_rfl) ?_; intro gr w' M'; (try simp only [Value.cells, Act.put, List.setIfInBounds_toArray, List.set_cons_zero, List.set_cons_succ, List.drop_succ_cons, List.drop_zero, List.take_succ_cons, List.take_zero, putAt, ints_set, ints_push] at M'); replace M := Lib.hid M'; clear M'; (try simp only [Act.put, List.setIfInBounds_toArray, List.set_cons_zero, List.set_cons_succ, List.drop_succ_cons, List.drop_zero, List.take_succ_cons, List.take_zero, putAt, ints_set, ints_push])) | (refine Mine.wp_alloc M.out rfl 42 rfl (.agg #[.int .i64 0, .int .i64 0, .int .i64 0, .slice none 0 0, .int .i64 0, .int .i64 0, .int .i64 0, .slice none 0 0, .slice none 0 0]) (by kernel_rfl) ?_; intro gd w' M'; (try simp only [Value.cells, Act.put, List.setIfInBounds_toArray, List.set_cons_zero, List.set_cons_succ, List.drop_succ_cons, List.drop_zero, List.take_succ_cons, List.take_zero, putAt, ints_set, ints_push] at M'); replace M := Lib.hid M'; clear M'; (try simp only [Act.put, List.setIfInBounds_toArray, List.set_cons_zero, List.set_cons_succ, List.drop_succ_cons, List.drop_zero, List.take_succ_cons, List.take_zero, putAt, ints_set, ints_push])) | (refine Mine.wp_make M.out rfl _ _ 39 rfl 67 _ _ _ Try.underlying39 Try.infoThief T rfl rfl (by omega) (by unfold maxLen; omega) ?_; intro gv w' M'; (try simp only [Act.put, List.setIfInBounds_toArray, List.set_cons_zero, List.set_cons_succ, List.drop_succ_cons, List.drop_zero, List.take_succ_cons, List.take_zero, putAt, ints_set, ints_push] at M'); replace M := Lib.hid M'; clear M'; (try simp only [Act.put, List.setIfInBounds_toArray, List.set_cons_zero, List.set_cons_succ, List.drop_succ_cons, List.drop_zero, List.take_succ_cons, List.take_zero, putAt, ints_set, ints_push])) | (refine Mine.wp_sets M.out rfl 42 _ _ rfl rfl 0 _ rfl rfl _ rfl (Nat.le_of_ble_eq_true rfl) (by simp [Value.oneCell']) (by kernel_rfl) ?_; intro w' M'; (try simp only [Act.put, List.setIfInBounds_toArray, List.set_cons_zero, List.set_cons_succ, List.drop_succ_cons, List.drop_zero, List.take_succ_cons, List.take_zero, putAt, ints_set, ints_push] at M'); replace M := Lib.hid M'; clear M'))
  have e0 := made_flat (n := T) (z := .agg #[.int .i64 0, .int .i64 0, .int .i64 0, .int .i64 0]) (a := (⟨0, 0, 0, 0⟩ : Thief)) Thief.cells_length (by omega) rfl
  simp only [Value.cells] at e0
  (try simp only [Value.cells] at M)
  rw [e0] at M
  have M2 := Lib.hid (((M.out.nilAt [_] 3 1).nilAt [_, _, _] 57 2))
  clear e0 M
  simp only [List.cons_append, List.nil_append] at M2
  go_loopw [6] (fun i wr => ∃ (k : Nat), k ≤ n ∧ i = .int .i64 k ∧ DqM w wr gd (dplay T l k) [.box gr 42 #[.int .i64 0, .int .i64 0, .int .i64 0, .slice none 0 0, .int .i64 0, .int .i64 0, .int .i64 0, .slice none 0 0, .slice none 0 0]]) (fun i _ => n - (intOf i).toNat)
  case atStart => exact ⟨0, Nat.zero_le _, rfl, _, _, _, _, _, _, _, _, _, M2.out⟩
  case round =>
    obtain ⟨k, hk, rfl, hM⟩ := hrel
    by_cases hlt : (k : Int) < (n : Int)
    rotate_left
    · have e : Hid (k = n) := by show k = n; omega
      obtain ⟨AI, nI, cI, AT, nT, cT, AK, nK, cK, M1⟩ := hM
      have M := Lib.hid M1
      clear M1
      simp only [dqc] at M
      go_wp2_with (first | (refine Mine.wp_gets M.out rfl 42 _ rfl 0 _ 9 rfl rfl (Nat.le_of_ble_eq_true rfl) _ Try.underlying42 (by rfl) (by kernel_rfl) ?_; (try simp only [Act.put, List.setIfInBounds_toArray, List.set_cons_zero, List.set_cons_succ, List.drop_succ_cons, List.drop_zero, List.take_succ_cons, List.take_zero, putAt, ints_set, ints_push])) | (refine Mine.wp_sets M.out rfl 42 _ _ rfl rfl 4 _ rfl rfl _ rfl (Nat.le_of_ble_eq_true rfl) (by simp [Value.oneCell']) (by kernel_rfl) ?_; intro w' M'; (try simp only [Act.put, List.setIfInBounds_toArray, List.set_cons_zero, List.set_cons_succ, List.drop_succ_cons, List.drop_zero, List.take_succ_cons, List.take_zero, putAt, ints_set, ints_push] at M'); replace M := Lib.hid M'; clear M'))
      refine bodyPost_ret (M.out.results_cell Try.results24 _ 4 rfl rfl _ Try.underlying42 (by rfl) (by kernel_rfl)) rfl ?_
      refine ⟨_, rfl, ?_⟩
      have e2 : dqPlay T l = dplay T l k := by rw [HP.out, e.out, ← HL.out]; rfl
      rw [e2]
      exact ⟨_, _, _, _, _, _, _, _, _, rfl, M.out.tail.last3⟩
    have hkl : k < l.length := by have := HL.out; omega
    have hI := HI.out k (by omega)
    obtain ⟨bA, oA, x, rfl, hx, hc0, hc1⟩ := act_at (HS.out.ext (by obtain ⟨_, _, _, _, _, _, _, _, _, M1⟩ := hM; exact M1.ext)) (k := k) (by omega)
    have HSU := Lib.hid (dplay_succ (n := T) hx)
    have HK := Lib.hid (HI.out (k + 1) (by omega))
    clear hx
    generalize hd : dplay T l k = d at hM HSU hI
    clear hd
    obtain ⟨kind, thief⟩ := x
    simp only at hc0 hc1
    have hph := hI.ph
    have hthl := hI.th
    obtain ⟨top, bottom, next, items, ⟨ph, ob, ot⟩, th, took⟩ := d
    simp only at hph hthl
    have HIN := Lib.hid hI
    clear hI
    have hkN : k ≤ 300 := by omega
    by_cases hk1 : kind = 1
    · skip
      subst hk1
      by_cases p1 : ph = 1
      · skip
        have p0 : ¬ ph = 0 := by omega
        have tq1 : (ph == 1) = true := by simp [p1]
        have tq2 : decide (2 ≤ ph) = false := by simp [p1]
        have HE : Hid (dact T (⟨top, bottom, next, items, ⟨ph, ob, ot⟩, th, took⟩ : Dq) ⟨1, thief⟩ = dpush (⟨top, bottom, next, items, ⟨ph, ob, ot⟩, th, took⟩ : Dq)) := by show _ = _; unfold dact; rw [if_pos (by simp), if_pos p1]
        first | (have P0 := Lib.hid p0; clear p0) | skip
        first | (have P1 := Lib.hid p1; clear p1) | skip
        first | (have P2 := Lib.hid p2; clear p2) | skip
        first | (have C4 := Lib.hid c4; clear c4) | skip
        obtain ⟨AI, nI, cI, AT, nT, cT, AK, nK, cK, M1⟩ := hM
        have M := Lib.hid M1
        clear M1
        simp only [dqc] at M
        have hgl := (M.out.box_at 0 rfl).lt
        have q0 := (M.out.box_at 0 rfl).cell 0
        simp only [List.getElem?_toArray, List.getElem?_cons_zero, List.getElem?_cons_succ] at q0
        have q1 := (M.out.box_at 0 rfl).cell 1
        simp only [List.getElem?_toArray, List.getElem?_cons_zero, List.getElem?_cons_succ] at q1
        have q2 := (M.out.box_at 0 rfl).cell 2
        simp only [List.getElem?_toArray, List.getElem?_cons_zero, List.getElem?_cons_succ] at q2
        have q3 := (M.out.box_at 0 rfl).cell 3
        simp only [List.getElem?_toArray, List.getElem?_cons_zero, List.getElem?_cons_succ] at q3
        have q4 := (M.out.box_at 0 rfl).cell 4
        simp only [List.getElem?_toArray, List.getElem?_cons_zero, List.getElem?_cons_succ] at q4
        have q5 := (M.out.box_at 0 rfl).cell 5
        simp only [List.getElem?_toArray, List.getElem?_cons_zero, List.getElem?_cons_succ] at q5
        have q6 := (M.out.box_at 0 rfl).cell 6
        simp only [List.getElem?_toArray, List.getElem?_cons_zero, List.getElem?_cons_succ] at q6
        have q7 := (M.out.box_at 0 rfl).cell 7
        simp only [List.getElem?_toArray, List.getElem?_cons_zero, List.getElem?_cons_succ] at q7
        have q8 := (M.out.box_at 0 rfl).cell 8
        simp only [List.getElem?_toArray, List.getElem?_cons_zero, List.getElem?_cons_succ] at q8
        go_wp2_with (first | (go_at_call 48; refine (spec_push (⟨top, bottom, next, items, ⟨ph, ob, ot⟩, th, took⟩ : Dq) T k HIN.out hkN (.inl P1.out) w _ _ _ ⟨AI, nI, cI, AT, nT, cT, AK, nK, cK, rfl, (M.out.al _).rot⟩ _ rfl).mono ?_; rintro e w2 ⟨vs2, rfl, AI2, nI2, cI2, AT2, nT2, cT2, AK2, nK2, cK2, rfl, M2⟩; simp only [dqc] at M2 ⊢; replace M := Lib.hid M2.unrot; clear M2 q0 q1 q2 q3 q4 q5 q6 q7 q8 hgl) | (go_at_call 30; refine (l1In_any _ _ _ _).mono ?_; rintro e w2 ⟨rfl, rfl⟩) | (refine Mine.wp_sets M.out rfl 42 _ _ rfl rfl 0 _ rfl rfl _ rfl (Nat.le_of_ble_eq_true rfl) (by simp [Value.oneCell']) (by kernel_rfl) ?_; intro w' M'; (try simp only [Act.put, List.setIfInBounds_toArray, List.set_cons_zero, List.set_cons_succ, List.drop_succ_cons, List.drop_zero, List.take_succ_cons, List.take_zero, putAt, ints_set, ints_push] at M'); replace M := Lib.hid M'; clear M'))
        go_roundw
        case rel => exact ⟨k + 1, by omega, by go_num, by rw [HSU.out]; exact (by rw [HE.out]; exact ⟨AI2, nI2, cI2, AT2, nT2, cT2, AK2, nK2, cK2, M.out⟩)⟩
        case measure => simp [intOf]; omega
      by_cases p0 : ph = 0
      · skip
        have tq1 : (ph == 1) = false := by simp [p0]
        have tq0 : (ph == 0) = true := by simp [p0]
        have tq2 : decide (2 ≤ ph) = false := by simp [p0]
        by_cases c4 : bottom < 40
        · skip
          have tq4 : decide (bottom < 40) = true := decide_eq_true c4
          have HE : Hid (dact T (⟨top, bottom, next, items, ⟨ph, ob, ot⟩, th, took⟩ : Dq) ⟨1, thief⟩ = dpush (⟨top, bottom, next, items, ⟨ph, ob, ot⟩, th, took⟩ : Dq)) := by show _ = _; unfold dact; rw [if_pos (by simp), if_neg (by show ¬ ph = 1; omega), if_neg (by simp; omega), if_pos c4]
          first | (have P0 := Lib.hid p0; clear p0) | skip
          first | (have P1 := Lib.hid p1; clear p1) | skip
          first | (have P2 := Lib.hid p2; clear p2) | skip
          first | (have C4 := Lib.hid c4; clear c4) | skip
          obtain ⟨AI, nI, cI, AT, nT, cT, AK, nK, cK, M1⟩ := hM
          have M := Lib.hid M1
          clear M1
          simp only [dqc] at M
          have hgl := (M.out.box_at 0 rfl).lt
          have q0 := (M.out.box_at 0 rfl).cell 0
          simp only [List.getElem?_toArray, List.getElem?_cons_zero, List.getElem?_cons_succ] at q0
          have q1 := (M.out.box_at 0 rfl).cell 1
          simp only [List.getElem?_toArray, List.getElem?_cons_zero, List.getElem?_cons_succ] at q1
          have q2 := (M.out.box_at 0 rfl).cell 2
          simp only [List.getElem?_toArray, List.getElem?_cons_zero, List.getElem?_cons_succ] at q2
          have q3 := (M.out.box_at 0 rfl).cell 3
          simp only [List.getElem?_toArray, List.getElem?_cons_zero, List.getElem?_cons_succ] at q3
          have q4 := (M.out.box_at 0 rfl).cell 4
          simp only [List.getElem?_toArray, List.getElem?_cons_zero, List.getElem?_cons_succ] at q4
          have q5 := (M.out.box_at 0 rfl).cell 5
          simp only [List.getElem?_toArray, List.getElem?_cons_zero, List.getElem?_cons_succ] at q5
          have q6 := (M.out.box_at 0 rfl).cell 6
          simp only [List.getElem?_toArray, List.getElem?_cons_zero, List.getElem?_cons_succ] at q6
          have q7 := (M.out.box_at 0 rfl).cell 7
          simp only [List.getElem?_toArray, List.getElem?_cons_zero, List.getElem?_cons_succ] at q7
          have q8 := (M.out.box_at 0 rfl).cell 8
          simp only [List.getElem?_toArray, List.getElem?_cons_zero, List.getElem?_cons_succ] at q8
          go_wp2_with (first | (go_at_call 48; refine (spec_push (⟨top, bottom, next, items, ⟨ph, ob, ot⟩, th, took⟩ : Dq) T k HIN.out hkN (.inr ⟨P0.out, C4.out⟩) w _ _ _ ⟨AI, nI, cI, AT, nT, cT, AK, nK, cK, rfl, (M.out.al _).rot⟩ _ rfl).mono ?_; rintro e w2 ⟨vs2, rfl, AI2, nI2, cI2, AT2, nT2, cT2, AK2, nK2, cK2, rfl, M2⟩; simp only [dqc] at M2 ⊢; replace M := Lib.hid M2.unrot; clear M2 q0 q1 q2 q3 q4 q5 q6 q7 q8 hgl) | (go_at_call 30; refine (l1In_any _ _ _ _).mono ?_; rintro e w2 ⟨rfl, rfl⟩) | (refine Mine.wp_sets M.out rfl 42 _ _ rfl rfl 0 _ rfl rfl _ rfl (Nat.le_of_ble_eq_true rfl) (by simp [Value.oneCell']) (by kernel_rfl) ?_; intro w' M'; (try simp only [Act.put, List.setIfInBounds_toArray, List.set_cons_zero, List.set_cons_succ, List.drop_succ_cons, List.drop_zero, List.take_succ_cons, List.take_zero, putAt, ints_set, ints_push] at M'); replace M := Lib.hid M'; clear M'))
          go_roundw
          case rel => exact ⟨k + 1, by omega, by go_num, by rw [HSU.out]; exact (by rw [HE.out]; exact ⟨AI2, nI2, cI2, AT2, nT2, cT2, AK2, nK2, cK2, M.out⟩)⟩
          case measure => simp [intOf]; omega
        have tq4 : decide (bottom < 40) = false := decide_eq_false c4
        have HE : Hid (dact T (⟨top, bottom, next, items, ⟨ph, ob, ot⟩, th, took⟩ : Dq) ⟨1, thief⟩ = (⟨top, bottom, next, items, ⟨ph, ob, ot⟩, th, took⟩ : Dq)) := by show _ = _; unfold dact; rw [if_pos (by simp), if_neg (by show ¬ ph = 1; omega), if_neg (by simp; omega), if_neg c4]
        first | (have P0 := Lib.hid p0; clear p0) | skip
        first | (have P1 := Lib.hid p1; clear p1) | skip
        first | (have P2 := Lib.hid p2; clear p2) | skip
        first | (have C4 := Lib.hid c4; clear c4) | skip
        obtain ⟨AI, nI, cI, AT, nT, cT, AK, nK, cK, M1⟩ := hM
        have M := Lib.hid M1
        clear M1
        simp only [dqc] at M
        have hgl := (M.out.box_at 0 rfl).lt
        have q0 := (M.out.box_at 0 rfl).cell 0
        simp only [List.getElem?_toArray, List.getElem?_cons_zero, List.getElem?_cons_succ] at q0
        have q1 := (M.out.box_at 0 rfl).cell 1
        simp only [List.getElem?_toArray, List.getElem?_cons_zero, List.getElem?_cons_succ] at q1
        have q2 := (M.out.box_at 0 rfl).cell 2
        simp only [List.getElem?_toArray, List.getElem?_cons_zero, List.getElem?_cons_succ] at q2
        have q3 := (M.out.box_at 0 rfl).cell 3
        simp only [List.getElem?_toArray, List.getElem?_cons_zero, List.getElem?_cons_succ] at q3
        have q4 := (M.out.box_at 0 rfl).cell 4
        simp only [List.getElem?_toArray, List.getElem?_cons_zero, List.getElem?_cons_succ] at q4
        have q5 := (M.out.box_at 0 rfl).cell 5
        simp only [List.getElem?_toArray, List.getElem?_cons_zero, List.getElem?_cons_succ] at q5
        have q6 := (M.out.box_at 0 rfl).cell 6
        simp only [List.getElem?_toArray, List.getElem?_cons_zero, List.getElem?_cons_succ] at q6
        have q7 := (M.out.box_at 0 rfl).cell 7
        simp only [List.getElem?_toArray, List.getElem?_cons_zero, List.getElem?_cons_succ] at q7
        have q8 := (M.out.box_at 0 rfl).cell 8
        simp only [List.getElem?_toArray, List.getElem?_cons_zero, List.getElem?_cons_succ] at q8
        go_wp2_with (first | (go_at_call 30; refine (l1In_any _ _ _ _).mono ?_; rintro e w2 ⟨rfl, rfl⟩) | (refine Mine.wp_sets M.out rfl 42 _ _ rfl rfl 0 _ rfl rfl _ rfl (Nat.le_of_ble_eq_true rfl) (by simp [Value.oneCell']) (by kernel_rfl) ?_; intro w' M'; (try simp only [Act.put, List.setIfInBounds_toArray, List.set_cons_zero, List.set_cons_succ, List.drop_succ_cons, List.drop_zero, List.take_succ_cons, List.take_zero, putAt, ints_set, ints_push] at M'); replace M := Lib.hid M'; clear M'))
        go_roundw
        case rel => exact ⟨k + 1, by omega, by go_num, by rw [HSU.out]; exact (by rw [HE.out]; exact ⟨AI, nI, cI, AT, nT, cT, AK, nK, cK, M.out.al _⟩)⟩
        case measure => simp [intOf]; omega
      have tq1 : (ph == 1) = false := by simpa using p1
      have tq0 : (ph == 0) = false := by simpa using p0
      have tq2 : decide (2 ≤ ph) = true := decide_eq_true (by omega)
      have HE : Hid (dact T (⟨top, bottom, next, items, ⟨ph, ob, ot⟩, th, took⟩ : Dq) ⟨1, thief⟩ = dpop (⟨top, bottom, next, items, ⟨ph, ob, ot⟩, th, took⟩ : Dq)) := by show _ = _; unfold dact; rw [if_pos (by simp), if_neg p1, if_pos (by left; show 2 ≤ ph; omega)]
      first | (have P0 := Lib.hid p0; clear p0) | skip
      first | (have P1 := Lib.hid p1; clear p1) | skip
      first | (have P2 := Lib.hid p2; clear p2) | skip
      first | (have C4 := Lib.hid c4; clear c4) | skip
      obtain ⟨AI, nI, cI, AT, nT, cT, AK, nK, cK, M1⟩ := hM
      have M := Lib.hid M1
      clear M1
      simp only [dqc] at M
      have hgl := (M.out.box_at 0 rfl).lt
      have q0 := (M.out.box_at 0 rfl).cell 0
      simp only [List.getElem?_toArray, List.getElem?_cons_zero, List.getElem?_cons_succ] at q0
      have q1 := (M.out.box_at 0 rfl).cell 1
      simp only [List.getElem?_toArray, List.getElem?_cons_zero, List.getElem?_cons_succ] at q1
      have q2 := (M.out.box_at 0 rfl).cell 2
      simp only [List.getElem?_toArray, List.getElem?_cons_zero, List.getElem?_cons_succ] at q2
      have q3 := (M.out.box_at 0 rfl).cell 3
      simp only [List.getElem?_toArray, List.getElem?_cons_zero, List.getElem?_cons_succ] at q3
      have q4 := (M.out.box_at 0 rfl).cell 4
      simp only [List.getElem?_toArray, List.getElem?_cons_zero, List.getElem?_cons_succ] at q4
      have q5 := (M.out.box_at 0 rfl).cell 5
      simp only [List.getElem?_toArray, List.getElem?_cons_zero, List.getElem?_cons_succ] at q5
      have q6 := (M.out.box_at 0 rfl).cell 6
      simp only [List.getElem?_toArray, List.getElem?_cons_zero, List.getElem?_cons_succ] at q6
      have q7 := (M.out.box_at 0 rfl).cell 7
      simp only [List.getElem?_toArray, List.getElem?_cons_zero, List.getElem?_cons_succ] at q7
      have q8 := (M.out.box_at 0 rfl).cell 8
      simp only [List.getElem?_toArray, List.getElem?_cons_zero, List.getElem?_cons_succ] at q8
      go_wp2_with (first | (go_at_call 49; refine (spec_pop (⟨top, bottom, next, items, ⟨ph, ob, ot⟩, th, took⟩ : Dq) T k HIN.out hkN P1.out w _ _ _ ⟨AI, nI, cI, AT, nT, cT, AK, nK, cK, rfl, (M.out.al _).rot⟩ _ rfl).mono ?_; rintro e w2 ⟨vs2, rfl, AI2, nI2, cI2, AT2, nT2, cT2, AK2, nK2, cK2, rfl, M2⟩; simp only [dqc] at M2 ⊢; replace M := Lib.hid M2.unrot; clear M2 q0 q1 q2 q3 q4 q5 q6 q7 q8 hgl) | (go_at_call 30; refine (l1In_any _ _ _ _).mono ?_; rintro e w2 ⟨rfl, rfl⟩) | (refine Mine.wp_sets M.out rfl 42 _ _ rfl rfl 0 _ rfl rfl _ rfl (Nat.le_of_ble_eq_true rfl) (by simp [Value.oneCell']) (by kernel_rfl) ?_; intro w' M'; (try simp only [Act.put, List.setIfInBounds_toArray, List.set_cons_zero, List.set_cons_succ, List.drop_succ_cons, List.drop_zero, List.take_succ_cons, List.take_zero, putAt, ints_set, ints_push] at M'); replace M := Lib.hid M'; clear M'))
      go_roundw
      case rel => exact ⟨k + 1, by omega, by go_num, by rw [HSU.out]; exact (by rw [HE.out]; exact ⟨AI2, nI2, cI2, AT2, nT2, cT2, AK2, nK2, cK2, M.out⟩)⟩
      case measure => simp [intOf]; omega
    by_cases hk2 : kind = 2
    · skip
      subst hk2
      by_cases p1 : ph = 1
      · skip
        have p0 : ¬ ph = 0 := by omega
        have tq1 : (ph == 1) = true := by simp [p1]
        have tq2 : decide (2 ≤ ph) = false := by simp [p1]
        have HE : Hid (dact T (⟨top, bottom, next, items, ⟨ph, ob, ot⟩, th, took⟩ : Dq) ⟨2, thief⟩ = dpush (⟨top, bottom, next, items, ⟨ph, ob, ot⟩, th, took⟩ : Dq)) := by show _ = _; unfold dact; rw [if_pos (by simp), if_pos p1]
        first | (have P0 := Lib.hid p0; clear p0) | skip
        first | (have P1 := Lib.hid p1; clear p1) | skip
        first | (have P2 := Lib.hid p2; clear p2) | skip
        first | (have C4 := Lib.hid c4; clear c4) | skip
        obtain ⟨AI, nI, cI, AT, nT, cT, AK, nK, cK, M1⟩ := hM
        have M := Lib.hid M1
        clear M1
        simp only [dqc] at M
        have hgl := (M.out.box_at 0 rfl).lt
        have q0 := (M.out.box_at 0 rfl).cell 0
        simp only [List.getElem?_toArray, List.getElem?_cons_zero, List.getElem?_cons_succ] at q0
        have q1 := (M.out.box_at 0 rfl).cell 1
        simp only [List.getElem?_toArray, List.getElem?_cons_zero, List.getElem?_cons_succ] at q1
        have q2 := (M.out.box_at 0 rfl).cell 2
        simp only [List.getElem?_toArray, List.getElem?_cons_zero, List.getElem?_cons_succ] at q2
        have q3 := (M.out.box_at 0 rfl).cell 3
        simp only [List.getElem?_toArray, List.getElem?_cons_zero, List.getElem?_cons_succ] at q3
        have q4 := (M.out.box_at 0 rfl).cell 4
        simp only [List.getElem?_toArray, List.getElem?_cons_zero, List.getElem?_cons_succ] at q4
        have q5 := (M.out.box_at 0 rfl).cell 5
        simp only [List.getElem?_toArray, List.getElem?_cons_zero, List.getElem?_cons_succ] at q5
        have q6 := (M.out.box_at 0 rfl).cell 6
        simp only [List.getElem?_toArray, List.getElem?_cons_zero, List.getElem?_cons_succ] at q6
        have q7 := (M.out.box_at 0 rfl).cell 7
        simp only [List.getElem?_toArray, List.getElem?_cons_zero, List.getElem?_cons_succ] at q7
        have q8 := (M.out.box_at 0 rfl).cell 8
        simp only [List.getElem?_toArray, List.getElem?_cons_zero, List.getElem?_cons_succ] at q8
        go_wp2_with (first | (go_at_call 48; refine (spec_push (⟨top, bottom, next, items, ⟨ph, ob, ot⟩, th, took⟩ : Dq) T k HIN.out hkN (.inl P1.out) w _ _ _ ⟨AI, nI, cI, AT, nT, cT, AK, nK, cK, rfl, (M.out.al _).rot⟩ _ rfl).mono ?_; rintro e w2 ⟨vs2, rfl, AI2, nI2, cI2, AT2, nT2, cT2, AK2, nK2, cK2, rfl, M2⟩; simp only [dqc] at M2 ⊢; replace M := Lib.hid M2.unrot; clear M2 q0 q1 q2 q3 q4 q5 q6 q7 q8 hgl) | (go_at_call 30; refine (l1In_any _ _ _ _).mono ?_; rintro e w2 ⟨rfl, rfl⟩) | (refine Mine.wp_sets M.out rfl 42 _ _ rfl rfl 0 _ rfl rfl _ rfl (Nat.le_of_ble_eq_true rfl) (by simp [Value.oneCell']) (by kernel_rfl) ?_; intro w' M'; (try simp only [Act.put, List.setIfInBounds_toArray, List.set_cons_zero, List.set_cons_succ, List.drop_succ_cons, List.drop_zero, List.take_succ_cons, List.take_zero, putAt, ints_set, ints_push] at M'); replace M := Lib.hid M'; clear M'))
        go_roundw
        case rel => exact ⟨k + 1, by omega, by go_num, by rw [HSU.out]; exact (by rw [HE.out]; exact ⟨AI2, nI2, cI2, AT2, nT2, cT2, AK2, nK2, cK2, M.out⟩)⟩
        case measure => simp [intOf]; omega
      have tq1 : (ph == 1) = false := by simpa using p1
      by_cases p0 : ph = 0
      · skip
        have tq0 : (ph == 0) = true := by simp [p0]
        have tq2 : decide (2 ≤ ph) = false := by simp [p0]
        have HE : Hid (dact T (⟨top, bottom, next, items, ⟨ph, ob, ot⟩, th, took⟩ : Dq) ⟨2, thief⟩ = dpop (⟨top, bottom, next, items, ⟨ph, ob, ot⟩, th, took⟩ : Dq)) := by show _ = _; unfold dact; rw [if_pos (by simp), if_neg p1, if_pos (by right; rfl)]
        first | (have P0 := Lib.hid p0; clear p0) | skip
        first | (have P1 := Lib.hid p1; clear p1) | skip
        first | (have P2 := Lib.hid p2; clear p2) | skip
        first | (have C4 := Lib.hid c4; clear c4) | skip
        obtain ⟨AI, nI, cI, AT, nT, cT, AK, nK, cK, M1⟩ := hM
        have M := Lib.hid M1
        clear M1
        simp only [dqc] at M
        have hgl := (M.out.box_at 0 rfl).lt
        have q0 := (M.out.box_at 0 rfl).cell 0
        simp only [List.getElem?_toArray, List.getElem?_cons_zero, List.getElem?_cons_succ] at q0
        have q1 := (M.out.box_at 0 rfl).cell 1
        simp only [List.getElem?_toArray, List.getElem?_cons_zero, List.getElem?_cons_succ] at q1
        have q2 := (M.out.box_at 0 rfl).cell 2
        simp only [List.getElem?_toArray, List.getElem?_cons_zero, List.getElem?_cons_succ] at q2
        have q3 := (M.out.box_at 0 rfl).cell 3
        simp only [List.getElem?_toArray, List.getElem?_cons_zero, List.getElem?_cons_succ] at q3
        have q4 := (M.out.box_at 0 rfl).cell 4
        simp only [List.getElem?_toArray, List.getElem?_cons_zero, List.getElem?_cons_succ] at q4
        have q5 := (M.out.box_at 0 rfl).cell 5
        simp only [List.getElem?_toArray, List.getElem?_cons_zero, List.getElem?_cons_succ] at q5
        have q6 := (M.out.box_at 0 rfl).cell 6
        simp only [List.getElem?_toArray, List.getElem?_cons_zero, List.getElem?_cons_succ] at q6
        have q7 := (M.out.box_at 0 rfl).cell 7
        simp only [List.getElem?_toArray, List.getElem?_cons_zero, List.getElem?_cons_succ] at q7
        have q8 := (M.out.box_at 0 rfl).cell 8
        simp only [List.getElem?_toArray, List.getElem?_cons_zero, List.getElem?_cons_succ] at q8
        go_wp2_with (first | (go_at_call 49; refine (spec_pop (⟨top, bottom, next, items, ⟨ph, ob, ot⟩, th, took⟩ : Dq) T k HIN.out hkN P1.out w _ _ _ ⟨AI, nI, cI, AT, nT, cT, AK, nK, cK, rfl, (M.out.al _).rot⟩ _ rfl).mono ?_; rintro e w2 ⟨vs2, rfl, AI2, nI2, cI2, AT2, nT2, cT2, AK2, nK2, cK2, rfl, M2⟩; simp only [dqc] at M2 ⊢; replace M := Lib.hid M2.unrot; clear M2 q0 q1 q2 q3 q4 q5 q6 q7 q8 hgl) | (go_at_call 30; refine (l1In_any _ _ _ _).mono ?_; rintro e w2 ⟨rfl, rfl⟩) | (refine Mine.wp_sets M.out rfl 42 _ _ rfl rfl 0 _ rfl rfl _ rfl (Nat.le_of_ble_eq_true rfl) (by simp [Value.oneCell']) (by kernel_rfl) ?_; intro w' M'; (try simp only [Act.put, List.setIfInBounds_toArray, List.set_cons_zero, List.set_cons_succ, List.drop_succ_cons, List.drop_zero, List.take_succ_cons, List.take_zero, putAt, ints_set, ints_push] at M'); replace M := Lib.hid M'; clear M'))
        go_roundw
        case rel => exact ⟨k + 1, by omega, by go_num, by rw [HSU.out]; exact (by rw [HE.out]; exact ⟨AI2, nI2, cI2, AT2, nT2, cT2, AK2, nK2, cK2, M.out⟩)⟩
        case measure => simp [intOf]; omega
      have tq0 : (ph == 0) = false := by simpa using p0
      have tq2 : decide (2 ≤ ph) = true := decide_eq_true (by omega)
      have HE : Hid (dact T (⟨top, bottom, next, items, ⟨ph, ob, ot⟩, th, took⟩ : Dq) ⟨2, thief⟩ = dpop (⟨top, bottom, next, items, ⟨ph, ob, ot⟩, th, took⟩ : Dq)) := by show _ = _; unfold dact; rw [if_pos (by simp), if_neg p1, if_pos (by right; rfl)]
      first | (have P0 := Lib.hid p0; clear p0) | skip
      first | (have P1 := Lib.hid p1; clear p1) | skip
      first | (have P2 := Lib.hid p2; clear p2) | skip
      first | (have C4 := Lib.hid c4; clear c4) | skip
      obtain ⟨AI, nI, cI, AT, nT, cT, AK, nK, cK, M1⟩ := hM
      have M := Lib.hid M1
      clear M1
      simp only [dqc] at M
      have hgl := (M.out.box_at 0 rfl).lt
      have q0 := (M.out.box_at 0 rfl).cell 0
      simp only [List.getElem?_toArray, List.getElem?_cons_zero, List.getElem?_cons_succ] at q0
      have q1 := (M.out.box_at 0 rfl).cell 1
      simp only [List.getElem?_toArray, List.getElem?_cons_zero, List.getElem?_cons_succ] at q1
      have q2 := (M.out.box_at 0 rfl).cell 2
      simp only [List.getElem?_toArray, List.getElem?_cons_zero, List.getElem?_cons_succ] at q2
      have q3 := (M.out.box_at 0 rfl).cell 3
      simp only [List.getElem?_toArray, List.getElem?_cons_zero, List.getElem?_cons_succ] at q3
      have q4 := (M.out.box_at 0 rfl).cell 4
      simp only [List.getElem?_toArray, List.getElem?_cons_zero, List.getElem?_cons_succ] at q4
      have q5 := (M.out.box_at 0 rfl).cell 5
      simp only [List.getElem?_toArray, List.getElem?_cons_zero, List.getElem?_cons_succ] at q5
      have q6 := (M.out.box_at 0 rfl).cell 6
      simp only [List.getElem?_toArray, List.getElem?_cons_zero, List.getElem?_cons_succ] at q6
      have q7 := (M.out.box_at 0 rfl).cell 7
      simp only [List.getElem?_toArray, List.getElem?_cons_zero, List.getElem?_cons_succ] at q7
      have q8 := (M.out.box_at 0 rfl).cell 8
      simp only [List.getElem?_toArray, List.getElem?_cons_zero, List.getElem?_cons_succ] at q8
      go_wp2_with (first | (go_at_call 49; refine (spec_pop (⟨top, bottom, next, items, ⟨ph, ob, ot⟩, th, took⟩ : Dq) T k HIN.out hkN P1.out w _ _ _ ⟨AI, nI, cI, AT, nT, cT, AK, nK, cK, rfl, (M.out.al _).rot⟩ _ rfl).mono ?_; rintro e w2 ⟨vs2, rfl, AI2, nI2, cI2, AT2, nT2, cT2, AK2, nK2, cK2, rfl, M2⟩; simp only [dqc] at M2 ⊢; replace M := Lib.hid M2.unrot; clear M2 q0 q1 q2 q3 q4 q5 q6 q7 q8 hgl) | (go_at_call 30; refine (l1In_any _ _ _ _).mono ?_; rintro e w2 ⟨rfl, rfl⟩) | (refine Mine.wp_sets M.out rfl 42 _ _ rfl rfl 0 _ rfl rfl _ rfl (Nat.le_of_ble_eq_true rfl) (by simp [Value.oneCell']) (by kernel_rfl) ?_; intro w' M'; (try simp only [Act.put, List.setIfInBounds_toArray, List.set_cons_zero, List.set_cons_succ, List.drop_succ_cons, List.drop_zero, List.take_succ_cons, List.take_zero, putAt, ints_set, ints_push] at M'); replace M := Lib.hid M'; clear M'))
      go_roundw
      case rel => exact ⟨k + 1, by omega, by go_num, by rw [HSU.out]; exact (by rw [HE.out]; exact ⟨AI2, nI2, cI2, AT2, nT2, cT2, AK2, nK2, cK2, M.out⟩)⟩
      case measure => simp [intOf]; omega
    have k1 : (kind == 1) = false := by simpa using hk1
    have k2 : (kind == 2) = false := by simpa using hk2
    by_cases hk3 : kind = 3
    · skip
      subst hk3
      by_cases c5 : 0 ≤ thief ∧ thief ≤ (T : Int) - 1
      · skip
        obtain ⟨K, rfl⟩ : ∃ K : Nat, thief = (K : Int) := ⟨thief.toNat, by omega⟩
        have d5 : decide (0 ≤ (K : Int) ∧ (K : Int) ≤ (T : Int) - 1) = true := decide_eq_true c5
        have hxk : th[K]? = some th[K] := List.getElem?_eq_getElem (by omega)
        generalize th[K]'(by omega) = xx at hxk
        have HXK := Lib.hid hxk
        clear hxk
        by_cases p1 : ph = 1
        · skip
          have tq1 : (ph == 1) = true := by simp [p1]
          have tq2 : decide (2 ≤ ph) = false := by simp [p1]
          have HE : Hid (dact T (⟨top, bottom, next, items, ⟨ph, ob, ot⟩, th, took⟩ : Dq) ⟨3, K⟩ = dsteal (⟨top, bottom, next, items, ⟨ph, ob, ot⟩, th, took⟩ : Dq) K xx) := by show _ = _; unfold dact; rw [if_neg (by simp), if_pos ⟨rfl, by show (0 : Int) ≤ K; omega, by show (K : Int) < T; omega⟩]; simp only [Int.toNat_natCast, HXK.out]
          first | (have P0 := Lib.hid p0; clear p0) | skip
          first | (have P1 := Lib.hid p1; clear p1) | skip
          first | (have P2 := Lib.hid p2; clear p2) | skip
          first | (have C4 := Lib.hid c4; clear c4) | skip
          obtain ⟨AI, nI, cI, AT, nT, cT, AK, nK, cK, M1⟩ := hM
          have M := Lib.hid M1
          clear M1
          simp only [dqc] at M
          have hgl := (M.out.box_at 0 rfl).lt
          have q0 := (M.out.box_at 0 rfl).cell 0
          simp only [List.getElem?_toArray, List.getElem?_cons_zero, List.getElem?_cons_succ] at q0
          have q1 := (M.out.box_at 0 rfl).cell 1
          simp only [List.getElem?_toArray, List.getElem?_cons_zero, List.getElem?_cons_succ] at q1
          have q2 := (M.out.box_at 0 rfl).cell 2
          simp only [List.getElem?_toArray, List.getElem?_cons_zero, List.getElem?_cons_succ] at q2
          have q3 := (M.out.box_at 0 rfl).cell 3
          simp only [List.getElem?_toArray, List.getElem?_cons_zero, List.getElem?_cons_succ] at q3
          have q4 := (M.out.box_at 0 rfl).cell 4
          simp only [List.getElem?_toArray, List.getElem?_cons_zero, List.getElem?_cons_succ] at q4
          have q5 := (M.out.box_at 0 rfl).cell 5
          simp only [List.getElem?_toArray, List.getElem?_cons_zero, List.getElem?_cons_succ] at q5
          have q6 := (M.out.box_at 0 rfl).cell 6
          simp only [List.getElem?_toArray, List.getElem?_cons_zero, List.getElem?_cons_succ] at q6
          have q7 := (M.out.box_at 0 rfl).cell 7
          simp only [List.getElem?_toArray, List.getElem?_cons_zero, List.getElem?_cons_succ] at q7
          have q8 := (M.out.box_at 0 rfl).cell 8
          simp only [List.getElem?_toArray, List.getElem?_cons_zero, List.getElem?_cons_succ] at q8
          go_wp2_with (first | (go_at_call 50; refine (spec_steal (⟨top, bottom, next, items, ⟨ph, ob, ot⟩, th, took⟩ : Dq) T k HIN.out hkN hT K xx HXK.out w _ _ _ ⟨AI, nI, cI, AT, nT, cT, AK, nK, cK, rfl, (M.out.al _).rot⟩ _ rfl).mono ?_; rintro e w2 ⟨vs2, rfl, AI2, nI2, cI2, AT2, nT2, cT2, AK2, nK2, cK2, rfl, M2⟩; simp only [dqc] at M2 ⊢; replace M := Lib.hid M2.unrot; clear M2 q0 q1 q2 q3 q4 q5 q6 q7 q8 hgl) | (go_at_call 30; refine (l1In_any _ _ _ _).mono ?_; rintro e w2 ⟨rfl, rfl⟩) | (refine Mine.wp_sets M.out rfl 42 _ _ rfl rfl 0 _ rfl rfl _ rfl (Nat.le_of_ble_eq_true rfl) (by simp [Value.oneCell']) (by kernel_rfl) ?_; intro w' M'; (try simp only [Act.put, List.setIfInBounds_toArray, List.set_cons_zero, List.set_cons_succ, List.drop_succ_cons, List.drop_zero, List.take_succ_cons, List.take_zero, putAt, ints_set, ints_push] at M'); replace M := Lib.hid M'; clear M'))
          go_roundw
          case rel => exact ⟨k + 1, by omega, by go_num, by rw [HSU.out]; exact (by rw [HE.out]; exact ⟨AI2, nI2, cI2, AT2, nT2, cT2, AK2, nK2, cK2, M.out⟩)⟩
          case measure => simp [intOf]; omega
        have tq1 : (ph == 1) = false := by simpa using p1
        by_cases p2 : 2 ≤ ph
        · skip
          have tq2 : decide (2 ≤ ph) = true := decide_eq_true p2
          have HE : Hid (dact T (⟨top, bottom, next, items, ⟨ph, ob, ot⟩, th, took⟩ : Dq) ⟨3, K⟩ = dsteal (⟨top, bottom, next, items, ⟨ph, ob, ot⟩, th, took⟩ : Dq) K xx) := by show _ = _; unfold dact; rw [if_neg (by simp), if_pos ⟨rfl, by show (0 : Int) ≤ K; omega, by show (K : Int) < T; omega⟩]; simp only [Int.toNat_natCast, HXK.out]
          first | (have P0 := Lib.hid p0; clear p0) | skip
          first | (have P1 := Lib.hid p1; clear p1) | skip
          first | (have P2 := Lib.hid p2; clear p2) | skip
          first | (have C4 := Lib.hid c4; clear c4) | skip
          obtain ⟨AI, nI, cI, AT, nT, cT, AK, nK, cK, M1⟩ := hM
          have M := Lib.hid M1
          clear M1
          simp only [dqc] at M
          have hgl := (M.out.box_at 0 rfl).lt
          have q0 := (M.out.box_at 0 rfl).cell 0
          simp only [List.getElem?_toArray, List.getElem?_cons_zero, List.getElem?_cons_succ] at q0
          have q1 := (M.out.box_at 0 rfl).cell 1
          simp only [List.getElem?_toArray, List.getElem?_cons_zero, List.getElem?_cons_succ] at q1
          have q2 := (M.out.box_at 0 rfl).cell 2
          simp only [List.getElem?_toArray, List.getElem?_cons_zero, List.getElem?_cons_succ] at q2
          have q3 := (M.out.box_at 0 rfl).cell 3
          simp only [List.getElem?_toArray, List.getElem?_cons_zero, List.getElem?_cons_succ] at q3
          have q4 := (M.out.box_at 0 rfl).cell 4
          simp only [List.getElem?_toArray, List.getElem?_cons_zero, List.getElem?_cons_succ] at q4
          have q5 := (M.out.box_at 0 rfl).cell 5
          simp only [List.getElem?_toArray, List.getElem?_cons_zero, List.getElem?_cons_succ] at q5
          have q6 := (M.out.box_at 0 rfl).cell 6
          simp only [List.getElem?_toArray, List.getElem?_cons_zero, List.getElem?_cons_succ] at q6
          have q7 := (M.out.box_at 0 rfl).cell 7
          simp only [List.getElem?_toArray, List.getElem?_cons_zero, List.getElem?_cons_succ] at q7
          have q8 := (M.out.box_at 0 rfl).cell 8
          simp only [List.getElem?_toArray, List.getElem?_cons_zero, List.getElem?_cons_succ] at q8
          go_wp2_with (first | (go_at_call 50; refine (spec_steal (⟨top, bottom, next, items, ⟨ph, ob, ot⟩, th, took⟩ : Dq) T k HIN.out hkN hT K xx HXK.out w _ _ _ ⟨AI, nI, cI, AT, nT, cT, AK, nK, cK, rfl, (M.out.al _).rot⟩ _ rfl).mono ?_; rintro e w2 ⟨vs2, rfl, AI2, nI2, cI2, AT2, nT2, cT2, AK2, nK2, cK2, rfl, M2⟩; simp only [dqc] at M2 ⊢; replace M := Lib.hid M2.unrot; clear M2 q0 q1 q2 q3 q4 q5 q6 q7 q8 hgl) | (go_at_call 30; refine (l1In_any _ _ _ _).mono ?_; rintro e w2 ⟨rfl, rfl⟩) | (refine Mine.wp_sets M.out rfl 42 _ _ rfl rfl 0 _ rfl rfl _ rfl (Nat.le_of_ble_eq_true rfl) (by simp [Value.oneCell']) (by kernel_rfl) ?_; intro w' M'; (try simp only [Act.put, List.setIfInBounds_toArray, List.set_cons_zero, List.set_cons_succ, List.drop_succ_cons, List.drop_zero, List.take_succ_cons, List.take_zero, putAt, ints_set, ints_push] at M'); replace M := Lib.hid M'; clear M'))
          go_roundw
          case rel => exact ⟨k + 1, by omega, by go_num, by rw [HSU.out]; exact (by rw [HE.out]; exact ⟨AI2, nI2, cI2, AT2, nT2, cT2, AK2, nK2, cK2, M.out⟩)⟩
          case measure => simp [intOf]; omega
        have tq2 : decide (2 ≤ ph) = false := decide_eq_false p2
        have HE : Hid (dact T (⟨top, bottom, next, items, ⟨ph, ob, ot⟩, th, took⟩ : Dq) ⟨3, K⟩ = dsteal (⟨top, bottom, next, items, ⟨ph, ob, ot⟩, th, took⟩ : Dq) K xx) := by show _ = _; unfold dact; rw [if_neg (by simp), if_pos ⟨rfl, by show (0 : Int) ≤ K; omega, by show (K : Int) < T; omega⟩]; simp only [Int.toNat_natCast, HXK.out]
        first | (have P0 := Lib.hid p0; clear p0) | skip
        first | (have P1 := Lib.hid p1; clear p1) | skip
        first | (have P2 := Lib.hid p2; clear p2) | skip
        first | (have C4 := Lib.hid c4; clear c4) | skip
        obtain ⟨AI, nI, cI, AT, nT, cT, AK, nK, cK, M1⟩ := hM
        have M := Lib.hid M1
        clear M1
        simp only [dqc] at M
        have hgl := (M.out.box_at 0 rfl).lt
        have q0 := (M.out.box_at 0 rfl).cell 0
        simp only [List.getElem?_toArray, List.getElem?_cons_zero, List.getElem?_cons_succ] at q0
        have q1 := (M.out.box_at 0 rfl).cell 1
        simp only [List.getElem?_toArray, List.getElem?_cons_zero, List.getElem?_cons_succ] at q1
        have q2 := (M.out.box_at 0 rfl).cell 2
        simp only [List.getElem?_toArray, List.getElem?_cons_zero, List.getElem?_cons_succ] at q2
        have q3 := (M.out.box_at 0 rfl).cell 3
        simp only [List.getElem?_toArray, List.getElem?_cons_zero, List.getElem?_cons_succ] at q3
        have q4 := (M.out.box_at 0 rfl).cell 4
        simp only [List.getElem?_toArray, List.getElem?_cons_zero, List.getElem?_cons_succ] at q4
        have q5 := (M.out.box_at 0 rfl).cell 5
        simp only [List.getElem?_toArray, List.getElem?_cons_zero, List.getElem?_cons_succ] at q5
        have q6 := (M.out.box_at 0 rfl).cell 6
        simp only [List.getElem?_toArray, List.getElem?_cons_zero, List.getElem?_cons_succ] at q6
        have q7 := (M.out.box_at 0 rfl).cell 7
        simp only [List.getElem?_toArray, List.getElem?_cons_zero, List.getElem?_cons_succ] at q7
        have q8 := (M.out.box_at 0 rfl).cell 8
        simp only [List.getElem?_toArray, List.getElem?_cons_zero, List.getElem?_cons_succ] at q8
        go_wp2_with (first | (go_at_call 50; refine (spec_steal (⟨top, bottom, next, items, ⟨ph, ob, ot⟩, th, took⟩ : Dq) T k HIN.out hkN hT K xx HXK.out w _ _ _ ⟨AI, nI, cI, AT, nT, cT, AK, nK, cK, rfl, (M.out.al _).rot⟩ _ rfl).mono ?_; rintro e w2 ⟨vs2, rfl, AI2, nI2, cI2, AT2, nT2, cT2, AK2, nK2, cK2, rfl, M2⟩; simp only [dqc] at M2 ⊢; replace M := Lib.hid M2.unrot; clear M2 q0 q1 q2 q3 q4 q5 q6 q7 q8 hgl) | (go_at_call 30; refine (l1In_any _ _ _ _).mono ?_; rintro e w2 ⟨rfl, rfl⟩) | (refine Mine.wp_sets M.out rfl 42 _ _ rfl rfl 0 _ rfl rfl _ rfl (Nat.le_of_ble_eq_true rfl) (by simp [Value.oneCell']) (by kernel_rfl) ?_; intro w' M'; (try simp only [Act.put, List.setIfInBounds_toArray, List.set_cons_zero, List.set_cons_succ, List.drop_succ_cons, List.drop_zero, List.take_succ_cons, List.take_zero, putAt, ints_set, ints_push] at M'); replace M := Lib.hid M'; clear M'))
        go_roundw
        case rel => exact ⟨k + 1, by omega, by go_num, by rw [HSU.out]; exact (by rw [HE.out]; exact ⟨AI2, nI2, cI2, AT2, nT2, cT2, AK2, nK2, cK2, M.out⟩)⟩
        case measure => simp [intOf]; omega
      have d5 : decide (0 ≤ thief ∧ thief ≤ (T : Int) - 1) = false := decide_eq_false c5
      by_cases p1 : ph = 1
      · skip
        have tq1 : (ph == 1) = true := by simp [p1]
        have tq2 : decide (2 ≤ ph) = false := by simp [p1]
        have HE : Hid (dact T (⟨top, bottom, next, items, ⟨ph, ob, ot⟩, th, took⟩ : Dq) ⟨3, thief⟩ = (⟨top, bottom, next, items, ⟨ph, ob, ot⟩, th, took⟩ : Dq)) := by show _ = _; unfold dact; rw [if_neg (by simp), if_neg (by simp only; omega)]
        first | (have P0 := Lib.hid p0; clear p0) | skip
        first | (have P1 := Lib.hid p1; clear p1) | skip
        first | (have P2 := Lib.hid p2; clear p2) | skip
        first | (have C4 := Lib.hid c4; clear c4) | skip
        obtain ⟨AI, nI, cI, AT, nT, cT, AK, nK, cK, M1⟩ := hM
        have M := Lib.hid M1
        clear M1
        simp only [dqc] at M
        have hgl := (M.out.box_at 0 rfl).lt
        have q0 := (M.out.box_at 0 rfl).cell 0
        simp only [List.getElem?_toArray, List.getElem?_cons_zero, List.getElem?_cons_succ] at q0
        have q1 := (M.out.box_at 0 rfl).cell 1
        simp only [List.getElem?_toArray, List.getElem?_cons_zero, List.getElem?_cons_succ] at q1
        have q2 := (M.out.box_at 0 rfl).cell 2
        simp only [List.getElem?_toArray, List.getElem?_cons_zero, List.getElem?_cons_succ] at q2
        have q3 := (M.out.box_at 0 rfl).cell 3
        simp only [List.getElem?_toArray, List.getElem?_cons_zero, List.getElem?_cons_succ] at q3
        have q4 := (M.out.box_at 0 rfl).cell 4
        simp only [List.getElem?_toArray, List.getElem?_cons_zero, List.getElem?_cons_succ] at q4
        have q5 := (M.out.box_at 0 rfl).cell 5
        simp only [List.getElem?_toArray, List.getElem?_cons_zero, List.getElem?_cons_succ] at q5
        have q6 := (M.out.box_at 0 rfl).cell 6
        simp only [List.getElem?_toArray, List.getElem?_cons_zero, List.getElem?_cons_succ] at q6
        have q7 := (M.out.box_at 0 rfl).cell 7
        simp only [List.getElem?_toArray, List.getElem?_cons_zero, List.getElem?_cons_succ] at q7
        have q8 := (M.out.box_at 0 rfl).cell 8
        simp only [List.getElem?_toArray, List.getElem?_cons_zero, List.getElem?_cons_succ] at q8
        go_wp2_with (first | (go_at_call 30; refine (l1In_any _ _ _ _).mono ?_; rintro e w2 ⟨rfl, rfl⟩) | (refine Mine.wp_sets M.out rfl 42 _ _ rfl rfl 0 _ rfl rfl _ rfl (Nat.le_of_ble_eq_true rfl) (by simp [Value.oneCell']) (by kernel_rfl) ?_; intro w' M'; (try simp only [Act.put, List.setIfInBounds_toArray, List.set_cons_zero, List.set_cons_succ, List.drop_succ_cons, List.drop_zero, List.take_succ_cons, List.take_zero, putAt, ints_set, ints_push] at M'); replace M := Lib.hid M'; clear M'))
        go_roundw
        case rel => exact ⟨k + 1, by omega, by go_num, by rw [HSU.out]; exact (by rw [HE.out]; exact ⟨AI, nI, cI, AT, nT, cT, AK, nK, cK, M.out.al _⟩)⟩
        case measure => simp [intOf]; omega
      have tq1 : (ph == 1) = false := by simpa using p1
      by_cases p2 : 2 ≤ ph
      · skip
        have tq2 : decide (2 ≤ ph) = true := decide_eq_true p2
        have HE : Hid (dact T (⟨top, bottom, next, items, ⟨ph, ob, ot⟩, th, took⟩ : Dq) ⟨3, thief⟩ = (⟨top, bottom, next, items, ⟨ph, ob, ot⟩, th, took⟩ : Dq)) := by show _ = _; unfold dact; rw [if_neg (by simp), if_neg (by simp only; omega)]
        first | (have P0 := Lib.hid p0; clear p0) | skip
        first | (have P1 := Lib.hid p1; clear p1) | skip
        first | (have P2 := Lib.hid p2; clear p2) | skip
        first | (have C4 := Lib.hid c4; clear c4) | skip
        obtain ⟨AI, nI, cI, AT, nT, cT, AK, nK, cK, M1⟩ := hM
        have M := Lib.hid M1
        clear M1
        simp only [dqc] at M
        have hgl := (M.out.box_at 0 rfl).lt
        have q0 := (M.out.box_at 0 rfl).cell 0
        simp only [List.getElem?_toArray, List.getElem?_cons_zero, List.getElem?_cons_succ] at q0
        have q1 := (M.out.box_at 0 rfl).cell 1
        simp only [List.getElem?_toArray, List.getElem?_cons_zero, List.getElem?_cons_succ] at q1
        have q2 := (M.out.box_at 0 rfl).cell 2
        simp only [List.getElem?_toArray, List.getElem?_cons_zero, List.getElem?_cons_succ] at q2
        have q3 := (M.out.box_at 0 rfl).cell 3
        simp only [List.getElem?_toArray, List.getElem?_cons_zero, List.getElem?_cons_succ] at q3
        have q4 := (M.out.box_at 0 rfl).cell 4
        simp only [List.getElem?_toArray, List.getElem?_cons_zero, List.getElem?_cons_succ] at q4
        have q5 := (M.out.box_at 0 rfl).cell 5
        simp only [List.getElem?_toArray, List.getElem?_cons_zero, List.getElem?_cons_succ] at q5
        have q6 := (M.out.box_at 0 rfl).cell 6
        simp only [List.getElem?_toArray, List.getElem?_cons_zero, List.getElem?_cons_succ] at q6
        have q7 := (M.out.box_at 0 rfl).cell 7
        simp only [List.getElem?_toArray, List.getElem?_cons_zero, List.getElem?_cons_succ] at q7
        have q8 := (M.out.box_at 0 rfl).cell 8
        simp only [List.getElem?_toArray, List.getElem?_cons_zero, List.getElem?_cons_succ] at q8
        go_wp2_with (first | (go_at_call 30; refine (l1In_any _ _ _ _).mono ?_; rintro e w2 ⟨rfl, rfl⟩) | (refine Mine.wp_sets M.out rfl 42 _ _ rfl rfl 0 _ rfl rfl _ rfl (Nat.le_of_ble_eq_true rfl) (by simp [Value.oneCell']) (by kernel_rfl) ?_; intro w' M'; (try simp only [Act.put, List.setIfInBounds_toArray, List.set_cons_zero, List.set_cons_succ, List.drop_succ_cons, List.drop_zero, List.take_succ_cons, List.take_zero, putAt, ints_set, ints_push] at M'); replace M := Lib.hid M'; clear M'))
        go_roundw
        case rel => exact ⟨k + 1, by omega, by go_num, by rw [HSU.out]; exact (by rw [HE.out]; exact ⟨AI, nI, cI, AT, nT, cT, AK, nK, cK, M.out.al _⟩)⟩
        case measure => simp [intOf]; omega
      have tq2 : decide (2 ≤ ph) = false := decide_eq_false p2
      have HE : Hid (dact T (⟨top, bottom, next, items, ⟨ph, ob, ot⟩, th, took⟩ : Dq) ⟨3, thief⟩ = (⟨top, bottom, next, items, ⟨ph, ob, ot⟩, th, took⟩ : Dq)) := by show _ = _; unfold dact; rw [if_neg (by simp), if_neg (by simp only; omega)]
      first | (have P0 := Lib.hid p0; clear p0) | skip
      first | (have P1 := Lib.hid p1; clear p1) | skip
      first | (have P2 := Lib.hid p2; clear p2) | skip
      first | (have C4 := Lib.hid c4; clear c4) | skip
      obtain ⟨AI, nI, cI, AT, nT, cT, AK, nK, cK, M1⟩ := hM
      have M := Lib.hid M1
      clear M1
      simp only [dqc] at M
      have hgl := (M.out.box_at 0 rfl).lt
      have q0 := (M.out.box_at 0 rfl).cell 0
      simp only [List.getElem?_toArray, List.getElem?_cons_zero, List.getElem?_cons_succ] at q0
      have q1 := (M.out.box_at 0 rfl).cell 1
      simp only [List.getElem?_toArray, List.getElem?_cons_zero, List.getElem?_cons_succ] at q1
      have q2 := (M.out.box_at 0 rfl).cell 2
      simp only [List.getElem?_toArray, List.getElem?_cons_zero, List.getElem?_cons_succ] at q2
      have q3 := (M.out.box_at 0 rfl).cell 3
      simp only [List.getElem?_toArray, List.getElem?_cons_zero, List.getElem?_cons_succ] at q3
      have q4 := (M.out.box_at 0 rfl).cell 4
      simp only [List.getElem?_toArray, List.getElem?_cons_zero, List.getElem?_cons_succ] at q4
      have q5 := (M.out.box_at 0 rfl).cell 5
      simp only [List.getElem?_toArray, List.getElem?_cons_zero, List.getElem?_cons_succ] at q5
      have q6 := (M.out.box_at 0 rfl).cell 6
      simp only [List.getElem?_toArray, List.getElem?_cons_zero, List.getElem?_cons_succ] at q6
      have q7 := (M.out.box_at 0 rfl).cell 7
      simp only [List.getElem?_toArray, List.getElem?_cons_zero, List.getElem?_cons_succ] at q7
      have q8 := (M.out.box_at 0 rfl).cell 8
      simp only [List.getElem?_toArray, List.getElem?_cons_zero, List.getElem?_cons_succ] at q8
      go_wp2_with (first | (go_at_call 30; refine (l1In_any _ _ _ _).mono ?_; rintro e w2 ⟨rfl, rfl⟩) | (refine Mine.wp_sets M.out rfl 42 _ _ rfl rfl 0 _ rfl rfl _ rfl (Nat.le_of_ble_eq_true rfl) (by simp [Value.oneCell']) (by kernel_rfl) ?_; intro w' M'; (try simp only [Act.put, List.setIfInBounds_toArray, List.set_cons_zero, List.set_cons_succ, List.drop_succ_cons, List.drop_zero, List.take_succ_cons, List.take_zero, putAt, ints_set, ints_push] at M'); replace M := Lib.hid M'; clear M'))
      go_roundw
      case rel => exact ⟨k + 1, by omega, by go_num, by rw [HSU.out]; exact (by rw [HE.out]; exact ⟨AI, nI, cI, AT, nT, cT, AK, nK, cK, M.out.al _⟩)⟩
      case measure => simp [intOf]; omega
    have k3 : (kind == 3) = false := by simpa using hk3
    by_cases p1 : ph = 1
    · skip
      have tq1 : (ph == 1) = true := by simp [p1]
      have tq2 : decide (2 ≤ ph) = false := by simp [p1]
      have HE : Hid (dact T (⟨top, bottom, next, items, ⟨ph, ob, ot⟩, th, took⟩ : Dq) ⟨kind, thief⟩ = (⟨top, bottom, next, items, ⟨ph, ob, ot⟩, th, took⟩ : Dq)) := by show _ = _; unfold dact; rw [if_neg (by simp only; omega), if_neg (by simp only; omega)]
      first | (have P0 := Lib.hid p0; clear p0) | skip
      first | (have P1 := Lib.hid p1; clear p1) | skip
      first | (have P2 := Lib.hid p2; clear p2) | skip
      first | (have C4 := Lib.hid c4; clear c4) | skip
      obtain ⟨AI, nI, cI, AT, nT, cT, AK, nK, cK, M1⟩ := hM
      have M := Lib.hid M1
      clear M1
      simp only [dqc] at M
      have hgl := (M.out.box_at 0 rfl).lt
      have q0 := (M.out.box_at 0 rfl).cell 0
      simp only [List.getElem?_toArray, List.getElem?_cons_zero, List.getElem?_cons_succ] at q0
      have q1 := (M.out.box_at 0 rfl).cell 1
      simp only [List.getElem?_toArray, List.getElem?_cons_zero, List.getElem?_cons_succ] at q1
      have q2 := (M.out.box_at 0 rfl).cell 2
      simp only [List.getElem?_toArray, List.getElem?_cons_zero, List.getElem?_cons_succ] at q2
      have q3 := (M.out.box_at 0 rfl).cell 3
      simp only [List.getElem?_toArray, List.getElem?_cons_zero, List.getElem?_cons_succ] at q3
      have q4 := (M.out.box_at 0 rfl).cell 4
      simp only [List.getElem?_toArray, List.getElem?_cons_zero, List.getElem?_cons_succ] at q4
      have q5 := (M.out.box_at 0 rfl).cell 5
      simp only [List.getElem?_toArray, List.getElem?_cons_zero, List.getElem?_cons_succ] at q5
      have q6 := (M.out.box_at 0 rfl).cell 6
      simp only [List.getElem?_toArray, List.getElem?_cons_zero, List.getElem?_cons_succ] at q6
      have q7 := (M.out.box_at 0 rfl).cell 7
      simp only [List.getElem?_toArray, List.getElem?_cons_zero, List.getElem?_cons_succ] at q7
      have q8 := (M.out.box_at 0 rfl).cell 8
      simp only [List.getElem?_toArray, List.getElem?_cons_zero, List.getElem?_cons_succ] at q8
      go_wp2_with (first | (go_at_call 30; refine (l1In_any _ _ _ _).mono ?_; rintro e w2 ⟨rfl, rfl⟩) | (refine Mine.wp_sets M.out rfl 42 _ _ rfl rfl 0 _ rfl rfl _ rfl (Nat.le_of_ble_eq_true rfl) (by simp [Value.oneCell']) (by kernel_rfl) ?_; intro w' M'; (try simp only [Act.put, List.setIfInBounds_toArray, List.set_cons_zero, List.set_cons_succ, List.drop_succ_cons, List.drop_zero, List.take_succ_cons, List.take_zero, putAt, ints_set, ints_push] at M'); replace M := Lib.hid M'; clear M'))
      go_roundw
      case rel => exact ⟨k + 1, by omega, by go_num, by rw [HSU.out]; exact (by rw [HE.out]; exact ⟨AI, nI, cI, AT, nT, cT, AK, nK, cK, M.out.al _⟩)⟩
      case measure => simp [intOf]; omega
    have tq1 : (ph == 1) = false := by simpa using p1
    by_cases p2 : 2 ≤ ph
    · skip
      have tq2 : decide (2 ≤ ph) = true := decide_eq_true p2
      have HE : Hid (dact T (⟨top, bottom, next, items, ⟨ph, ob, ot⟩, th, took⟩ : Dq) ⟨kind, thief⟩ = (⟨top, bottom, next, items, ⟨ph, ob, ot⟩, th, took⟩ : Dq)) := by show _ = _; unfold dact; rw [if_neg (by simp only; omega), if_neg (by simp only; omega)]
      first | (have P0 := Lib.hid p0; clear p0) | skip
      first | (have P1 := Lib.hid p1; clear p1) | skip
      first | (have P2 := Lib.hid p2; clear p2) | skip
      first | (have C4 := Lib.hid c4; clear c4) | skip
      obtain ⟨AI, nI, cI, AT, nT, cT, AK, nK, cK, M1⟩ := hM
      have M := Lib.hid M1
      clear M1
      simp only [dqc] at M
      have hgl := (M.out.box_at 0 rfl).lt
      have q0 := (M.out.box_at 0 rfl).cell 0
      simp only [List.getElem?_toArray, List.getElem?_cons_zero, List.getElem?_cons_succ] at q0
      have q1 := (M.out.box_at 0 rfl).cell 1
      simp only [List.getElem?_toArray, List.getElem?_cons_zero, List.getElem?_cons_succ] at q1
      have q2 := (M.out.box_at 0 rfl).cell 2
      simp only [List.getElem?_toArray, List.getElem?_cons_zero, List.getElem?_cons_succ] at q2
      have q3 := (M.out.box_at 0 rfl).cell 3
      simp only [List.getElem?_toArray, List.getElem?_cons_zero, List.getElem?_cons_succ] at q3
      have q4 := (M.out.box_at 0 rfl).cell 4
      simp only [List.getElem?_toArray, List.getElem?_cons_zero, List.getElem?_cons_succ] at q4
      have q5 := (M.out.box_at 0 rfl).cell 5
      simp only [List.getElem?_toArray, List.getElem?_cons_zero, List.getElem?_cons_succ] at q5
      have q6 := (M.out.box_at 0 rfl).cell 6
      simp only [List.getElem?_toArray, List.getElem?_cons_zero, List.getElem?_cons_succ] at q6
      have q7 := (M.out.box_at 0 rfl).cell 7
      simp only [List.getElem?_toArray, List.getElem?_cons_zero, List.getElem?_cons_succ] at q7
      have q8 := (M.out.box_at 0 rfl).cell 8
      simp only [List.getElem?_toArray, List.getElem?_cons_zero, List.getElem?_cons_succ] at q8
      go_wp2_with (first | (go_at_call 30; refine (l1In_any _ _ _ _).mono ?_; rintro e w2 ⟨rfl, rfl⟩) | (refine Mine.wp_sets M.out rfl 42 _ _ rfl rfl 0 _ rfl rfl _ rfl (Nat.le_of_ble_eq_true rfl) (by simp [Value.oneCell']) (by kernel_rfl) ?_; intro w' M'; (try simp only [Act.put, List.setIfInBounds_toArray, List.set_cons_zero, List.set_cons_succ, List.drop_succ_cons, List.drop_zero, List.take_succ_cons, List.take_zero, putAt, ints_set, ints_push] at M'); replace M := Lib.hid M'; clear M'))
      go_roundw
      case rel => exact ⟨k + 1, by omega, by go_num, by rw [HSU.out]; exact (by rw [HE.out]; exact ⟨AI, nI, cI, AT, nT, cT, AK, nK, cK, M.out.al _⟩)⟩
      case measure => simp [intOf]; omega
    have tq2 : decide (2 ≤ ph) = false := decide_eq_false p2
    have HE : Hid (dact T (⟨top, bottom, next, items, ⟨ph, ob, ot⟩, th, took⟩ : Dq) ⟨kind, thief⟩ = (⟨top, bottom, next, items, ⟨ph, ob, ot⟩, th, took⟩ : Dq)) := by show _ = _; unfold dact; rw [if_neg (by simp only; omega), if_neg (by simp only; omega)]
    first | (have P0 := Lib.hid p0; clear p0) | skip
    first | (have P1 := Lib.hid p1; clear p1) | skip
    first | (have P2 := Lib.hid p2; clear p2) | skip
    first | (have C4 := Lib.hid c4; clear c4) | skip
    obtain ⟨AI, nI, cI, AT, nT, cT, AK, nK, cK, M1⟩ := hM
    have M := Lib.hid M1
    clear M1
    simp only [dqc] at M
    have hgl := (M.out.box_at 0 rfl).lt
    have q0 := (M.out.box_at 0 rfl).cell 0
    simp only [List.getElem?_toArray, List.getElem?_cons_zero, List.getElem?_cons_succ] at q0
    have q1 := (M.out.box_at 0 rfl).cell 1
    simp only [List.getElem?_toArray, List.getElem?_cons_zero, List.getElem?_cons_succ] at q1
    have q2 := (M.out.box_at 0 rfl).cell 2
    simp only [List.getElem?_toArray, List.getElem?_cons_zero, List.getElem?_cons_succ] at q2
    have q3 := (M.out.box_at 0 rfl).cell 3
    simp only [List.getElem?_toArray, List.getElem?_cons_zero, List.getElem?_cons_succ] at q3
    have q4 := (M.out.box_at 0 rfl).cell 4
    simp only [List.getElem?_toArray, List.getElem?_cons_zero, List.getElem?_cons_succ] at q4
    have q5 := (M.out.box_at 0 rfl).cell 5
    simp only [List.getElem?_toArray, List.getElem?_cons_zero, List.getElem?_cons_succ] at q5
    have q6 := (M.out.box_at 0 rfl).cell 6
    simp only [List.getElem?_toArray, List.getElem?_cons_zero, List.getElem?_cons_succ] at q6
    have q7 := (M.out.box_at 0 rfl).cell 7
    simp only [List.getElem?_toArray, List.getElem?_cons_zero, List.getElem?_cons_succ] at q7
    have q8 := (M.out.box_at 0 rfl).cell 8
    simp only [List.getElem?_toArray, List.getElem?_cons_zero, List.getElem?_cons_succ] at q8
    go_wp2_with (first | (go_at_call 30; refine (l1In_any _ _ _ _).mono ?_; rintro e w2 ⟨rfl, rfl⟩) | (refine Mine.wp_sets M.out rfl 42 _ _ rfl rfl 0 _ rfl rfl _ rfl (Nat.le_of_ble_eq_true rfl) (by simp [Value.oneCell']) (by kernel_rfl) ?_; intro w' M'; (try simp only [Act.put, List.setIfInBounds_toArray, List.set_cons_zero, List.set_cons_succ, List.drop_succ_cons, List.drop_zero, List.take_succ_cons, List.take_zero, putAt, ints_set, ints_push] at M'); replace M := Lib.hid M'; clear M'))
    go_roundw
    case rel => exact ⟨k + 1, by omega, by go_num, by rw [HSU.out]; exact (by rw [HE.out]; exact ⟨AI, nI, cI, AT, nT, cT, AK, nK, cK, M.out.al _⟩)⟩
    case measure => simp [intOf]; omega
end Go.Proofs.Ytkkcgpoakhllkaa
