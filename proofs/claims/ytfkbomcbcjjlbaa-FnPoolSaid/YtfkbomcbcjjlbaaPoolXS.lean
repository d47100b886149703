/- PoolDrain of the reference. No condition but lengths. -/
import Derived.Test.YtfkbomcbcjjlbaaPoolX
namespace Go.Proofs.Ytfkbomcbcjjlbaa
open Go.RowKit Go.Deep
set_option linter.unusedSimpArgs false
set_option linter.unusedVariables false

theorem drain_over' {ps : List Int} {wk : Nat} {p : Pool} (h : overP p) : ∀ f, pdrain ps wk f p = p ∧ pcount ps wk f p = 0
  | 0 => ⟨rfl, rfl⟩
  | f + 1 => drain_stop h
theorem over_zero : overP pzero := fun i hi => absurd hi (Nat.not_lt_zero _)

set_option maxRecDepth 8000 in
set_option maxHeartbeats 32000000 in
theorem spec_PoolDrain (Ap : Option Addr) (np cp : Nat) (ps : List Int) (wk : Int) (A : Option Addr) (n c : Nat) (l : List Pick) (w : World) (S : Nat → Prop) (hs : Sl w S 1 Ap np (ints ps)) (hm : np ≤ 1048576) (T : Nat → Prop) (ht : Sl w T 2 A n (l.flatMap Pick.cells)) (hn : n ≤ 1048576) :
    Calls Try.prog 30 #[.slice Ap np cp, .int .i64 wk, .slice A n c] w fun e w' => ∃ vs, e = .returned (.tuple #[.agg vs.toArray, .int .i64 ((poolDrain ps wk l).2 : Nat)]) ∧ PoolV w w' vs (poolDrain ps wk l).1 [] := by
  have hnp := hs.len
  have hnl := ht.flen Pick.cells_length (by omega)
  have HS := Lib.hid hs
  have HT := Lib.hid ht
  clear hs ht
  have M := Lib.hid (Mine.refl w)
  have HPC := Lib.hid (fun (w9 : World) (x9 : Ext w w9) => spec_PoolPlay Ap np cp ps wk A n c l w9 S (HS.out.ext x9) hm T (HT.out.ext x9) hn)
  by_cases hok : tasksOk ps = true ∧ (1 ≤ wk ∧ wk ≤ 4) ∧ l.length ≤ 300
  rotate_left
  · skip
    have ep : poolPlay ps wk l = pzero := if_neg hok
    have ed : poolDrain ps wk l = (pzero, 0) := if_neg hok
    have HED := Lib.hid ed
    rw [ep] at HPC
    clear ep ed
    go_enter Try.func30, Try.ntmps30
    go_wp2_with (first | (go_at_call 23; refine (HPC.out _ M.out.ext).mono ?_; rintro e w2 ⟨vs, rfl, qs, ⟨A0, n0, k0⟩, ⟨A1, n1, k1⟩, ⟨A2, n2, k2⟩, ⟨A3, n3, k3⟩, ⟨A4, n4, k4⟩, ⟨A5, n5, k5⟩, ⟨A6, n6, k6⟩, rfl, hq, M7⟩; simp only [plc, Hdr.val] at M7 ⊢; have M8 := M.out.join (rs' := (_ :: _ :: _ :: _ :: _ :: _ :: _ :: qrows qs _)) M7; replace M := Lib.hid (Mine.rise (_ :: _ :: _ :: _ :: _ :: _ :: _ :: qrows qs _) M8); clear M7 M8) | ((with_reducible show wpList _ _ _ (⟨_, _, _, _, _, none⟩ :: _) _ _); first | (refine Mine.wp_alloc (rs := []) M.out rfl 36 rfl (.agg #[.slice none 0 0, .slice none 0 0, .slice none 0 0, .slice none 0 0, .slice none 0 0, .slice none 0 0, .slice none 0 0]) (by kernel_rfl) ?_; intro gr w' M'; (try simp only [Value.cells, Act.put, List.setIfInBounds_toArray, List.set_cons_zero, List.set_cons_succ, List.drop_succ_cons, List.drop_zero, List.take_succ_cons, List.take_zero, putAt, ints_set, ints_push, List.getElem_toArray, List.getElem_cons_zero, List.getElem_cons_succ] at M'); replace M := Lib.hid M'; clear M'; (try simp only [Act.put, List.setIfInBounds_toArray, List.set_cons_zero, List.set_cons_succ, List.drop_succ_cons, List.drop_zero, List.take_succ_cons, List.take_zero, putAt, ints_set, ints_push, List.getElem_toArray, List.getElem_cons_zero, List.getElem_cons_succ])) | (refine Mine.wp_alloc M.out rfl 36 rfl (.agg #[.slice none 0 0, .slice none 0 0, .slice none 0 0, .slice none 0 0, .slice none 0 0, .slice none 0 0, .slice none 0 0]) (by kernel_rfl) ?_; intro g8 w' M'; (try simp only [Value.cells, Act.put, List.setIfInBounds_toArray, List.set_cons_zero, List.set_cons_succ, List.drop_succ_cons, List.drop_zero, List.take_succ_cons, List.take_zero, putAt, ints_set, ints_push, List.getElem_toArray, List.getElem_cons_zero, List.getElem_cons_succ] at M'); replace M := Lib.hid M'; clear M'; (try simp only [Act.put, List.setIfInBounds_toArray, List.set_cons_zero, List.set_cons_succ, List.drop_succ_cons, List.drop_zero, List.take_succ_cons, List.take_zero, putAt, ints_set, ints_push, List.getElem_toArray, List.getElem_cons_zero, List.getElem_cons_succ])) | (refine Mine.wp_sets M.out rfl 36 _ _ rfl rfl 0 _ rfl rfl _ rfl (Nat.le_of_ble_eq_true rfl) (by simp [Value.oneCell']) (by kernel_rfl) ?_; intro w' M'; (try simp only [Act.put, List.setIfInBounds_toArray, List.set_cons_zero, List.set_cons_succ, List.drop_succ_cons, List.drop_zero, List.take_succ_cons, List.take_zero, putAt, ints_set, ints_push, List.getElem_toArray, List.getElem_cons_zero, List.getElem_cons_succ] at M'); replace M := Lib.hid M'; clear M')))
    go_loopw [9] (fun i wr => ∃ (d : Nat) (p : Pool), i = .int .i64 d ∧ d ≤ 200 ∧ Hid (p = pzero ∧ d = 0) ∧ ∃ (qs : List Hdr) (H0 HC HS HL HT HR HE : Hdr), qs.length = (p).queues_.length ∧ Mine w wr (.box g8 36 (plc H0 HC HS HL HT HR HE).toArray :: .box gr 36 #[.slice none 0 0, .slice none 0 0, .slice none 0 0, .slice none 0 0, .slice none 0 0, .slice none 0 0, .slice none 0 0] :: .row 62 1 H0.1 H0.2.1 H0.2.2 (qcells qs) :: .row 3 1 HC.1 HC.2.1 HC.2.2 (ints (p).cur_) :: .row 3 1 HS.1 HS.2.1 HS.2.2 (ints (p).spawned_) :: .row 3 1 HL.1 HL.2.1 HL.2.2 (ints (p).left_) :: .row 3 1 HT.1 HT.2.1 HT.2.2 (ints (p).state_) :: .row 3 1 HR.1 HR.2.1 HR.2.2 (ints (p).ran_) :: .row 3 1 HE.1 HE.2.1 HE.2.2 (ints (p).ended_) :: (qrows qs (p).queues_ ++ []))) (fun i _ => 200 - (intOf i).toNat)
    case atStart => exact ⟨0, pzero, rfl, by omega, ⟨rfl, rfl⟩, qs, (A0, n0, k0), (A1, n1, k1), (A2, n2, k2), (A3, n3, k3), (A4, n4, k4), (A5, n5, k5), (A6, n6, k6), hq, M.out⟩
    case round =>
      clear M hq
      obtain ⟨d, p, rfl, hd, HZ, qs, ⟨A0, n0, k0⟩, ⟨A1, n1, k1⟩, ⟨A2, n2, k2⟩, ⟨A3, n3, k3⟩, ⟨A4, n4, k4⟩, ⟨A5, n5, k5⟩, ⟨A6, n6, k6⟩, hq, M1⟩ := hrel
      obtain ⟨rfl, rfl⟩ := HZ.out
      simp only [plc, Hdr.val] at M1
      have M := Lib.hid M1
      clear M1 HZ
      have HW : Hid (Pool.wt pzero ≤ 1000) := by show _ ≤ _; simp [Pool.wt, pzero, wtl]
      go_wp2_with (first | (go_at_call 18; refine (spec_PoolOver pzero _ _ (fun _ => True) (show Pool.R _ _ [.slice A0 n0 k0, .slice A1 n1 k1, .slice A2 n2 k2, .slice A3 n3 k3, .slice A4 n4 k4, .slice A5 n5 k5, .slice A6 n6 k6] pzero from poolR (qs := qs) (H0 := (A0, n0, k0)) (HC := (A1, n1, k1)) (HS := (A2, n2, k2)) (HL := (A3, n3, k3)) (HT := (A4, n4, k4)) (HR := (A5, n5, k5)) (HE := (A6, n6, k6)) (p := pzero) hq HW.out M.out.tail.tail) (by have := HW.out; omega)).mono ?_; rintro e w2 ⟨he, x2⟩; rw [over_dec, dec_yes over_zero] at he; subst he; replace M := Lib.hid (M.out.on x2); clear x2) | ((with_reducible show wpList _ _ _ (⟨_, _, _, _, _, none⟩ :: _) _ _); first | (refine Mine.wp_get M.out rfl _ _ rfl 0 _ rfl rfl _ rfl _ (by first | exact Try.underlying3 | exact Try.underlying22 | exact Try.underlying34) (by rfl) ?_; (try simp only [Act.put, List.setIfInBounds_toArray, List.set_cons_zero, List.set_cons_succ, List.drop_succ_cons, List.drop_zero, List.take_succ_cons, List.take_zero, putAt, ints_set, ints_push, List.getElem_toArray, List.getElem_cons_zero, List.getElem_cons_succ])) | (refine Mine.wp_gets M.out rfl 36 _ rfl 0 _ 7 rfl rfl (Nat.le_of_ble_eq_true rfl) _ Try.underlying36 (by rfl) (by kernel_rfl) ?_; (try simp only [Act.put, List.setIfInBounds_toArray, List.set_cons_zero, List.set_cons_succ, List.drop_succ_cons, List.drop_zero, List.take_succ_cons, List.take_zero, putAt, ints_set, ints_push, List.getElem_toArray, List.getElem_cons_zero, List.getElem_cons_succ])) | (refine Mine.wp_sets M.out rfl 36 _ _ rfl rfl 1 _ rfl rfl _ rfl (Nat.le_of_ble_eq_true rfl) (by simp [Value.oneCell']) (by kernel_rfl) ?_; intro w' M'; (try simp only [Act.put, List.setIfInBounds_toArray, List.set_cons_zero, List.set_cons_succ, List.drop_succ_cons, List.drop_zero, List.take_succ_cons, List.take_zero, putAt, ints_set, ints_push, List.getElem_toArray, List.getElem_cons_zero, List.getElem_cons_succ] at M'); replace M := Lib.hid M'; clear M')) | ((with_reducible show wpList _ _ _ (⟨_, .load _ _, _, _, _, some _⟩ :: _) _ _); first | (refine Mine.wp_getsg M.out (by rfl) 36 _ rfl 0 _ 7 rfl rfl (Nat.le_of_ble_eq_true rfl) _ Try.underlying36 (by rfl) (by kernel_rfl) ?_; (try simp only [Act.put, List.setIfInBounds_toArray, List.set_cons_zero, List.set_cons_succ, List.drop_succ_cons, List.drop_zero, List.take_succ_cons, List.take_zero, putAt, ints_set, ints_push, List.getElem_toArray, List.getElem_cons_zero, List.getElem_cons_succ]))))
      refine bodyPost_ret (M.out.results_cell2 Try.results30 _ 1 rfl rfl _ Try.underlying36 (by rfl) (by kernel_rfl)) rfl ?_
      refine ⟨plc (A0, n0, k0) (A1, n1, k1) (A2, n2, k2) (A3, n3, k3) (A4, n4, k4) (A5, n5, k5) (A6, n6, k6), ?_, ?_⟩
      · rw [HED.out]; rfl
      rw [HED.out]
      exact ⟨qs, (A0, n0, k0), (A1, n1, k1), (A2, n2, k2), (A3, n3, k3), (A4, n4, k4), (A5, n5, k5), (A6, n6, k6), rfl, hq, M.out.tail.tail⟩
  obtain ⟨h1, h2, h3⟩ := hok
  obtain ⟨Kw, rfl⟩ : ∃ Kw : Nat, wk = (Kw : Int) := ⟨wk.toNat, by omega⟩
  have hK4 : Kw ≤ 4 := by omega
  have hK1 : 0 < Kw := by omega
  have ep : poolPlay ps Kw l = pplay ps Kw (pks l) l.length := if_pos ⟨h1, h2, h3⟩
  have ed : poolDrain ps Kw l = (pdrain ps Kw 200 (pplay ps Kw (pks l) l.length), pcount ps Kw 200 (pplay ps Kw (pks l) l.length)) := if_pos ⟨h1, h2, h3⟩
  have hI0 := play_inv h1 hK1 (pks l) l.length (by simp [pks])
  rw [ep] at HPC
  generalize pplay ps Kw (pks l) l.length = pl at HPC ed hI0
  have HED := Lib.hid ed
  have HI0 := Lib.hid hI0
  have hps := task_len h1
  clear ep ed hI0
  go_enter Try.func30, Try.ntmps30
  go_wp2_with (first | (go_at_call 23; refine (HPC.out _ M.out.ext).mono ?_; rintro e w2 ⟨vs, rfl, qs, ⟨A0, n0, k0⟩, ⟨A1, n1, k1⟩, ⟨A2, n2, k2⟩, ⟨A3, n3, k3⟩, ⟨A4, n4, k4⟩, ⟨A5, n5, k5⟩, ⟨A6, n6, k6⟩, rfl, hq, M7⟩; simp only [plc, Hdr.val] at M7 ⊢; have M8 := M.out.join (rs' := (_ :: _ :: _ :: _ :: _ :: _ :: _ :: qrows qs _)) M7; replace M := Lib.hid (Mine.rise (_ :: _ :: _ :: _ :: _ :: _ :: _ :: qrows qs _) M8); clear M7 M8) | ((with_reducible show wpList _ _ _ (⟨_, _, _, _, _, none⟩ :: _) _ _); first | (refine Mine.wp_alloc (rs := []) M.out rfl 36 rfl (.agg #[.slice none 0 0, .slice none 0 0, .slice none 0 0, .slice none 0 0, .slice none 0 0, .slice none 0 0, .slice none 0 0]) (by kernel_rfl) ?_; intro gr w' M'; (try simp only [Value.cells, Act.put, List.setIfInBounds_toArray, List.set_cons_zero, List.set_cons_succ, List.drop_succ_cons, List.drop_zero, List.take_succ_cons, List.take_zero, putAt, ints_set, ints_push, List.getElem_toArray, List.getElem_cons_zero, List.getElem_cons_succ] at M'); replace M := Lib.hid M'; clear M'; (try simp only [Act.put, List.setIfInBounds_toArray, List.set_cons_zero, List.set_cons_succ, List.drop_succ_cons, List.drop_zero, List.take_succ_cons, List.take_zero, putAt, ints_set, ints_push, List.getElem_toArray, List.getElem_cons_zero, List.getElem_cons_succ])) | (refine Mine.wp_alloc M.out rfl 36 rfl (.agg #[.slice none 0 0, .slice none 0 0, .slice none 0 0, .slice none 0 0, .slice none 0 0, .slice none 0 0, .slice none 0 0]) (by kernel_rfl) ?_; intro g8 w' M'; (try simp only [Value.cells, Act.put, List.setIfInBounds_toArray, List.set_cons_zero, List.set_cons_succ, List.drop_succ_cons, List.drop_zero, List.take_succ_cons, List.take_zero, putAt, ints_set, ints_push, List.getElem_toArray, List.getElem_cons_zero, List.getElem_cons_succ] at M'); replace M := Lib.hid M'; clear M'; (try simp only [Act.put, List.setIfInBounds_toArray, List.set_cons_zero, List.set_cons_succ, List.drop_succ_cons, List.drop_zero, List.take_succ_cons, List.take_zero, putAt, ints_set, ints_push, List.getElem_toArray, List.getElem_cons_zero, List.getElem_cons_succ])) | (refine Mine.wp_sets M.out rfl 36 _ _ rfl rfl 0 _ rfl rfl _ rfl (Nat.le_of_ble_eq_true rfl) (by simp [Value.oneCell']) (by kernel_rfl) ?_; intro w' M'; (try simp only [Act.put, List.setIfInBounds_toArray, List.set_cons_zero, List.set_cons_succ, List.drop_succ_cons, List.drop_zero, List.take_succ_cons, List.take_zero, putAt, ints_set, ints_push, List.getElem_toArray, List.getElem_cons_zero, List.getElem_cons_succ] at M'); replace M := Lib.hid M'; clear M')))
  go_loopw [9] (fun i wr => ∃ (d : Nat) (p : Pool), i = .int .i64 d ∧ d ≤ 200 ∧ Hid (PInv ps Kw (-1) p ∧ pdrain ps Kw (200 - d) p = pdrain ps Kw 200 pl ∧ d + pcount ps Kw (200 - d) p = pcount ps Kw 200 pl) ∧ ∃ (qs : List Hdr) (H0 HC HS HL HT HR HE : Hdr), qs.length = (p).queues_.length ∧ Mine w wr (.box g8 36 (plc H0 HC HS HL HT HR HE).toArray :: .box gr 36 #[.slice none 0 0, .slice none 0 0, .slice none 0 0, .slice none 0 0, .slice none 0 0, .slice none 0 0, .slice none 0 0] :: .row 62 1 H0.1 H0.2.1 H0.2.2 (qcells qs) :: .row 3 1 HC.1 HC.2.1 HC.2.2 (ints (p).cur_) :: .row 3 1 HS.1 HS.2.1 HS.2.2 (ints (p).spawned_) :: .row 3 1 HL.1 HL.2.1 HL.2.2 (ints (p).left_) :: .row 3 1 HT.1 HT.2.1 HT.2.2 (ints (p).state_) :: .row 3 1 HR.1 HR.2.1 HR.2.2 (ints (p).ran_) :: .row 3 1 HE.1 HE.2.1 HE.2.2 (ints (p).ended_) :: (qrows qs (p).queues_ ++ []))) (fun i _ => 200 - (intOf i).toNat)
  case atStart => exact ⟨0, pl, rfl, by omega, ⟨HI0.out, rfl, by simp⟩, qs, (A0, n0, k0), (A1, n1, k1), (A2, n2, k2), (A3, n3, k3), (A4, n4, k4), (A5, n5, k5), (A6, n6, k6), hq, M.out⟩
  case round =>
    clear M hq
    obtain ⟨d, p, rfl, hd, HZ, qs, ⟨A0, n0, k0⟩, ⟨A1, n1, k1⟩, ⟨A2, n2, k2⟩, ⟨A3, n3, k3⟩, ⟨A4, n4, k4⟩, ⟨A5, n5, k5⟩, ⟨A6, n6, k6⟩, hq, M1⟩ := hrel
    simp only [plc, Hdr.val] at M1
    have M := Lib.hid M1
    clear M1
    have HW := Lib.hid (PInv.wt_le h1 hK4 HZ.out.1)
    have hc0 := M.out.len1 3 rfl
    rw [ints_length, HZ.out.1.lc] at hc0
    subst hc0
    have bK : decide (0 < (Kw : Int)) = true := decide_eq_true (by omega)
    by_cases ho : overP p
    · skip
      go_wp2_with (first | (go_at_call 18; refine (spec_PoolOver p _ _ (fun _ => True) (show Pool.R _ _ [.slice A0 n0 k0, .slice A1 Kw k1, .slice A2 n2 k2, .slice A3 n3 k3, .slice A4 n4 k4, .slice A5 n5 k5, .slice A6 n6 k6] p from poolR (qs := qs) (H0 := (A0, n0, k0)) (HC := (A1, Kw, k1)) (HS := (A2, n2, k2)) (HL := (A3, n3, k3)) (HT := (A4, n4, k4)) (HR := (A5, n5, k5)) (HE := (A6, n6, k6)) (p := p) hq HW.out M.out.tail.tail) (by have := HW.out; omega)).mono ?_; rintro e w2 ⟨he, x2⟩; rw [over_dec, dec_yes ho] at he; subst he; replace M := Lib.hid (M.out.on x2); clear x2) | ((with_reducible show wpList _ _ _ (⟨_, _, _, _, _, none⟩ :: _) _ _); first | (refine Mine.wp_get M.out rfl _ _ rfl 0 _ rfl rfl _ rfl _ (by first | exact Try.underlying3 | exact Try.underlying22 | exact Try.underlying34) (by rfl) ?_; (try simp only [Act.put, List.setIfInBounds_toArray, List.set_cons_zero, List.set_cons_succ, List.drop_succ_cons, List.drop_zero, List.take_succ_cons, List.take_zero, putAt, ints_set, ints_push, List.getElem_toArray, List.getElem_cons_zero, List.getElem_cons_succ])) | (refine Mine.wp_gets M.out rfl 36 _ rfl 0 _ 7 rfl rfl (Nat.le_of_ble_eq_true rfl) _ Try.underlying36 (by rfl) (by kernel_rfl) ?_; (try simp only [Act.put, List.setIfInBounds_toArray, List.set_cons_zero, List.set_cons_succ, List.drop_succ_cons, List.drop_zero, List.take_succ_cons, List.take_zero, putAt, ints_set, ints_push, List.getElem_toArray, List.getElem_cons_zero, List.getElem_cons_succ])) | (refine Mine.wp_sets M.out rfl 36 _ _ rfl rfl 1 _ rfl rfl _ rfl (Nat.le_of_ble_eq_true rfl) (by simp [Value.oneCell']) (by kernel_rfl) ?_; intro w' M'; (try simp only [Act.put, List.setIfInBounds_toArray, List.set_cons_zero, List.set_cons_succ, List.drop_succ_cons, List.drop_zero, List.take_succ_cons, List.take_zero, putAt, ints_set, ints_push, List.getElem_toArray, List.getElem_cons_zero, List.getElem_cons_succ] at M'); replace M := Lib.hid M'; clear M')) | ((with_reducible show wpList _ _ _ (⟨_, .load _ _, _, _, _, some _⟩ :: _) _ _); first | (refine Mine.wp_getsg M.out (by rfl) 36 _ rfl 0 _ 7 rfl rfl (Nat.le_of_ble_eq_true rfl) _ Try.underlying36 (by rfl) (by kernel_rfl) ?_; (try simp only [Act.put, List.setIfInBounds_toArray, List.set_cons_zero, List.set_cons_succ, List.drop_succ_cons, List.drop_zero, List.take_succ_cons, List.take_zero, putAt, ints_set, ints_push, List.getElem_toArray, List.getElem_cons_zero, List.getElem_cons_succ]))))
      refine bodyPost_ret (M.out.results_cell2 Try.results30 _ 1 rfl rfl _ Try.underlying36 (by rfl) (by kernel_rfl)) rfl ?_
      refine ⟨plc (A0, n0, k0) (A1, Kw, k1) (A2, n2, k2) (A3, n3, k3) (A4, n4, k4) (A5, n5, k5) (A6, n6, k6), ?_, ?_⟩
      · rw [HED.out]; have e := HZ.out.2.2; rw [(drain_over' ho _).2, Nat.add_zero] at e; show _ = Ending.returned (.tuple #[_, .int .i64 ((pcount ps Kw 200 pl : Nat) : Int)]); rw [← e]; rfl
      rw [HED.out]
      have e := HZ.out.2.1
      rw [(drain_over' ho _).1] at e
      show PoolV _ _ _ (pdrain ps Kw 200 pl) _
      rw [← e]
      exact ⟨qs, (A0, n0, k0), (A1, Kw, k1), (A2, n2, k2), (A3, n3, k3), (A4, n4, k4), (A5, n5, k5), (A6, n6, k6), rfl, hq, M.out.tail.tail⟩
    by_cases hd2 : (d : Int) < 200
    rotate_left
    · skip
      obtain rfl : d = 200 := by omega
      go_wp2_with (first | (go_at_call 18; refine (spec_PoolOver p _ _ (fun _ => True) (show Pool.R _ _ [.slice A0 n0 k0, .slice A1 Kw k1, .slice A2 n2 k2, .slice A3 n3 k3, .slice A4 n4 k4, .slice A5 n5 k5, .slice A6 n6 k6] p from poolR (qs := qs) (H0 := (A0, n0, k0)) (HC := (A1, Kw, k1)) (HS := (A2, n2, k2)) (HL := (A3, n3, k3)) (HT := (A4, n4, k4)) (HR := (A5, n5, k5)) (HE := (A6, n6, k6)) (p := p) hq HW.out M.out.tail.tail) (by have := HW.out; omega)).mono ?_; rintro e w2 ⟨he, x2⟩; rw [over_dec, dec_no ho] at he; subst he; replace M := Lib.hid (M.out.on x2); clear x2) | ((with_reducible show wpList _ _ _ (⟨_, _, _, _, _, none⟩ :: _) _ _); first | (refine Mine.wp_get M.out rfl _ _ rfl 0 _ rfl rfl _ rfl _ (by first | exact Try.underlying3 | exact Try.underlying22 | exact Try.underlying34) (by rfl) ?_; (try simp only [Act.put, List.setIfInBounds_toArray, List.set_cons_zero, List.set_cons_succ, List.drop_succ_cons, List.drop_zero, List.take_succ_cons, List.take_zero, putAt, ints_set, ints_push, List.getElem_toArray, List.getElem_cons_zero, List.getElem_cons_succ])) | (refine Mine.wp_gets M.out rfl 36 _ rfl 0 _ 7 rfl rfl (Nat.le_of_ble_eq_true rfl) _ Try.underlying36 (by rfl) (by kernel_rfl) ?_; (try simp only [Act.put, List.setIfInBounds_toArray, List.set_cons_zero, List.set_cons_succ, List.drop_succ_cons, List.drop_zero, List.take_succ_cons, List.take_zero, putAt, ints_set, ints_push, List.getElem_toArray, List.getElem_cons_zero, List.getElem_cons_succ])) | (refine Mine.wp_sets M.out rfl 36 _ _ rfl rfl 1 _ rfl rfl _ rfl (Nat.le_of_ble_eq_true rfl) (by simp [Value.oneCell']) (by kernel_rfl) ?_; intro w' M'; (try simp only [Act.put, List.setIfInBounds_toArray, List.set_cons_zero, List.set_cons_succ, List.drop_succ_cons, List.drop_zero, List.take_succ_cons, List.take_zero, putAt, ints_set, ints_push, List.getElem_toArray, List.getElem_cons_zero, List.getElem_cons_succ] at M'); replace M := Lib.hid M'; clear M')) | ((with_reducible show wpList _ _ _ (⟨_, .load _ _, _, _, _, some _⟩ :: _) _ _); first | (refine Mine.wp_getsg M.out (by rfl) 36 _ rfl 0 _ 7 rfl rfl (Nat.le_of_ble_eq_true rfl) _ Try.underlying36 (by rfl) (by kernel_rfl) ?_; (try simp only [Act.put, List.setIfInBounds_toArray, List.set_cons_zero, List.set_cons_succ, List.drop_succ_cons, List.drop_zero, List.take_succ_cons, List.take_zero, putAt, ints_set, ints_push, List.getElem_toArray, List.getElem_cons_zero, List.getElem_cons_succ]))))
      refine bodyPost_ret (M.out.results_cell2 Try.results30 _ 1 rfl rfl _ Try.underlying36 (by rfl) (by kernel_rfl)) rfl ?_
      refine ⟨plc (A0, n0, k0) (A1, Kw, k1) (A2, n2, k2) (A3, n3, k3) (A4, n4, k4) (A5, n5, k5) (A6, n6, k6), ?_, ?_⟩
      · rw [HED.out]; have e := HZ.out.2.2; rw [Nat.sub_self, show pcount ps Kw 0 p = 0 from rfl, Nat.add_zero] at e; show _ = Ending.returned (.tuple #[_, .int .i64 ((pcount ps Kw 200 pl : Nat) : Int)]); rw [← e]; rfl
      rw [HED.out]
      have e := HZ.out.2.1
      rw [Nat.sub_self, show pdrain ps Kw 0 p = p from rfl] at e
      show PoolV _ _ _ (pdrain ps Kw 200 pl) _
      rw [← e]
      exact ⟨qs, (A0, n0, k0), (A1, Kw, k1), (A2, n2, k2), (A3, n3, k3), (A4, n4, k4), (A5, n5, k5), (A6, n6, k6), rfl, hq, M.out.tail.tail⟩
    go_wp2_with (first | (go_at_call 18; refine (spec_PoolOver p _ _ (fun _ => True) (show Pool.R _ _ [.slice A0 n0 k0, .slice A1 Kw k1, .slice A2 n2 k2, .slice A3 n3 k3, .slice A4 n4 k4, .slice A5 n5 k5, .slice A6 n6 k6] p from poolR (qs := qs) (H0 := (A0, n0, k0)) (HC := (A1, Kw, k1)) (HS := (A2, n2, k2)) (HL := (A3, n3, k3)) (HT := (A4, n4, k4)) (HR := (A5, n5, k5)) (HE := (A6, n6, k6)) (p := p) hq HW.out M.out.tail.tail) (by have := HW.out; omega)).mono ?_; rintro e w2 ⟨he, x2⟩; rw [over_dec, dec_no ho] at he; subst he; replace M := Lib.hid (M.out.on x2); clear x2) | ((with_reducible show wpList _ _ _ (⟨_, _, _, _, _, none⟩ :: _) _ _); first | (refine Mine.wp_get M.out rfl _ _ rfl 0 _ rfl rfl _ rfl _ (by first | exact Try.underlying3 | exact Try.underlying22 | exact Try.underlying34) (by rfl) ?_; (try simp only [Act.put, List.setIfInBounds_toArray, List.set_cons_zero, List.set_cons_succ, List.drop_succ_cons, List.drop_zero, List.take_succ_cons, List.take_zero, putAt, ints_set, ints_push, List.getElem_toArray, List.getElem_cons_zero, List.getElem_cons_succ])) | (refine Mine.wp_gets M.out rfl 36 _ rfl 0 _ 7 rfl rfl (Nat.le_of_ble_eq_true rfl) _ Try.underlying36 (by rfl) (by kernel_rfl) ?_; (try simp only [Act.put, List.setIfInBounds_toArray, List.set_cons_zero, List.set_cons_succ, List.drop_succ_cons, List.drop_zero, List.take_succ_cons, List.take_zero, putAt, ints_set, ints_push, List.getElem_toArray, List.getElem_cons_zero, List.getElem_cons_succ]))) | ((with_reducible show wpList _ _ _ (⟨_, .load _ _, _, _, _, some _⟩ :: _) _ _); first | (refine Mine.wp_getsg M.out (by rfl) 36 _ rfl 0 _ 7 rfl rfl (Nat.le_of_ble_eq_true rfl) _ Try.underlying36 (by rfl) (by kernel_rfl) ?_; (try simp only [Act.put, List.setIfInBounds_toArray, List.set_cons_zero, List.set_cons_succ, List.drop_succ_cons, List.drop_zero, List.take_succ_cons, List.take_zero, putAt, ints_set, ints_push, List.getElem_toArray, List.getElem_cons_zero, List.getElem_cons_succ]))))
    go_loopw [10] (fun i wr => ∃ (j : Nat), j ≤ Kw ∧ i = .int .i64 j ∧ ∃ (qs : List Hdr) (H0 HC HS HL HT HR HE : Hdr), qs.length = (pround ps Kw p j).queues_.length ∧ Mine w wr (.box g8 36 (plc H0 HC HS HL HT HR HE).toArray :: .box gr 36 #[.slice none 0 0, .slice none 0 0, .slice none 0 0, .slice none 0 0, .slice none 0 0, .slice none 0 0, .slice none 0 0] :: .row 62 1 H0.1 H0.2.1 H0.2.2 (qcells qs) :: .row 3 1 HC.1 HC.2.1 HC.2.2 (ints (pround ps Kw p j).cur_) :: .row 3 1 HS.1 HS.2.1 HS.2.2 (ints (pround ps Kw p j).spawned_) :: .row 3 1 HL.1 HL.2.1 HL.2.2 (ints (pround ps Kw p j).left_) :: .row 3 1 HT.1 HT.2.1 HT.2.2 (ints (pround ps Kw p j).state_) :: .row 3 1 HR.1 HR.2.1 HR.2.2 (ints (pround ps Kw p j).ran_) :: .row 3 1 HE.1 HE.2.1 HE.2.2 (ints (pround ps Kw p j).ended_) :: (qrows qs (pround ps Kw p j).queues_ ++ []))) (fun i _ => Kw - (intOf i).toNat)
    case atStart => exact ⟨0, Nat.zero_le _, rfl, qs, (A0, n0, k0), (A1, Kw, k1), (A2, n2, k2), (A3, n3, k3), (A4, n4, k4), (A5, n5, k5), (A6, n6, k6), hq, M.out⟩
    case round =>
      clear M hq HW
      obtain ⟨j, hj, rfl, qs, ⟨A0, n0, k0⟩, ⟨A1, n1, k1⟩, ⟨A2, n2, k2⟩, ⟨A3, n3, k3⟩, ⟨A4, n4, k4⟩, ⟨A5, n5, k5⟩, ⟨A6, n6, k6⟩, hq, M1⟩ := hrel
      simp only [plc, Hdr.val] at M1
      have M := Lib.hid M1
      clear M1
      have HR := Lib.hid (round_all h1 HZ.out.1 j hj)
      by_cases hjl : (j : Int) < (Kw : Int)
      rotate_left
      · obtain rfl : j = Kw := by omega
        go_wp2_with fail
        go_roundw
        case rel =>
          have e9 : 200 - d = (200 - (d + 1)) + 1 := by omega
          have h9 := HZ.out
          rw [e9, (drain_go ho).1, (drain_go ho).2] at h9
          exact ⟨d + 1, _, by go_num, by omega, ⟨HR.out.1, h9.2.1, by have := h9.2.2; omega⟩, qs, (A0, n0, k0), (A1, n1, k1), (A2, n2, k2), (A3, n3, k3), (A4, n4, k4), (A5, n5, k5), (A6, n6, k6), hq, M.out⟩
        case measure => simp [intOf]; omega
      have hjK : j < Kw := by omega
      have hrem : Int.tmod ((j : Int) + 1) (Kw : Int) = ((j : Int) + 1) % (Kw : Int) := Int.tmod_eq_emod_of_nonneg (by omega)
      have hKn : ¬ (Kw : Int) = 0 := by omega
      have hK0 : ¬ Kw = 0 := by omega
      have hjw : IntKind.i64.wrap ((j : Int) + 1) = (j : Int) + 1 := IntWalk.i64_in _ (by omega)
      have hKb : ((Kw : Int) == 0) = false := by simp; omega
      generalize hpp : pround ps Kw p j = pp at M hq HR
      have HPP := Lib.hid hpp
      clear hpp
      go_wp2_with fail
      have MT := Lib.hid M.out.take2
      refine Mine.region_headS MT.out M.out 8 (by kernel_rfl) (by kernel_rfl) ?_
      intro w' M'
      replace M := Lib.hid M'
      clear M'
      refine HQ.takeL (i := 0) rfl (by kernel_rfl) (by kernel_rfl) (by kernel_rfl) (by omega) rfl (fun _ _ _ _ h => h) ?_
      intro K hK
      (first | (refine Mine.rd_gets 36 _ rfl 0 _ 7 rfl rfl (Nat.le_of_ble_eq_true rfl) _ Try.underlying36 (by rfl) (by kernel_rfl) ?_; (try simp only [Act.put, List.setIfInBounds_toArray, List.set_cons_zero, List.set_cons_succ, List.drop_succ_cons, List.drop_zero, List.take_succ_cons, List.take_zero, putAt, ints_set, ints_push, List.getElem_toArray, List.getElem_cons_zero, List.getElem_cons_succ]); go_big_quiet_on) | (unfold Reads; apply Exists.intro; refine ⟨fun wq hq => ?_, ?_⟩; (clear hq; go_simp; first | done | rfl); (try simp only [Act.put, List.setIfInBounds_toArray, List.set_cons_succ, List.set_cons_zero]); go_big_quiet_on))
      refine HQ.takeL (i := 1) rfl (by kernel_rfl) (by kernel_rfl) (by kernel_rfl) (by omega) rfl (fun _ _ _ _ h => h) ?_
      intro K hK
      (first | (refine Mine.rd_gets 36 _ rfl 0 _ 7 rfl rfl (Nat.le_of_ble_eq_true rfl) _ Try.underlying36 (by rfl) (by kernel_rfl) ?_; (try simp only [Act.put, List.setIfInBounds_toArray, List.set_cons_zero, List.set_cons_succ, List.drop_succ_cons, List.drop_zero, List.take_succ_cons, List.take_zero, putAt, ints_set, ints_push, List.getElem_toArray, List.getElem_cons_zero, List.getElem_cons_succ]); go_big_quiet_on) | (unfold Reads; apply Exists.intro; refine ⟨fun wq hq => ?_, ?_⟩; (clear hq; go_simp; first | done | rfl); (try simp only [Act.put, List.setIfInBounds_toArray, List.set_cons_succ, List.set_cons_zero]); go_big_quiet_on))
      refine HQ.takeL (i := 2) rfl (by kernel_rfl) (by kernel_rfl) (by kernel_rfl) (by omega) rfl (fun _ _ _ _ h => h) ?_
      intro K hK
      (first | (refine Mine.rd_gets 36 _ rfl 0 _ 7 rfl rfl (Nat.le_of_ble_eq_true rfl) _ Try.underlying36 (by rfl) (by kernel_rfl) ?_; (try simp only [Act.put, List.setIfInBounds_toArray, List.set_cons_zero, List.set_cons_succ, List.drop_succ_cons, List.drop_zero, List.take_succ_cons, List.take_zero, putAt, ints_set, ints_push, List.getElem_toArray, List.getElem_cons_zero, List.getElem_cons_succ]); go_big_quiet_on) | (unfold Reads; apply Exists.intro; refine ⟨fun wq hq => ?_, ?_⟩; (clear hq; go_simp; first | done | rfl); (try simp only [Act.put, List.setIfInBounds_toArray, List.set_cons_succ, List.set_cons_zero]); go_big_quiet_on))
      refine HQ.takeL (i := 3) rfl (by kernel_rfl) (by kernel_rfl) (by kernel_rfl) (by omega) rfl (fun _ _ _ _ h => h) ?_
      intro K hK
      (first | (refine Mine.rd_gets 36 _ rfl 0 _ 7 rfl rfl (Nat.le_of_ble_eq_true rfl) _ Try.underlying36 (by rfl) (by kernel_rfl) ?_; (try simp only [Act.put, List.setIfInBounds_toArray, List.set_cons_zero, List.set_cons_succ, List.drop_succ_cons, List.drop_zero, List.take_succ_cons, List.take_zero, putAt, ints_set, ints_push, List.getElem_toArray, List.getElem_cons_zero, List.getElem_cons_succ]); go_big_quiet_on) | (unfold Reads; apply Exists.intro; refine ⟨fun wq hq => ?_, ?_⟩; (clear hq; go_simp; first | done | rfl); (try simp only [Act.put, List.setIfInBounds_toArray, List.set_cons_succ, List.set_cons_zero]); go_big_quiet_on))
      refine HQ.takeL (i := 4) rfl (by kernel_rfl) (by kernel_rfl) (by kernel_rfl) (by omega) rfl (fun _ _ _ _ h => h) ?_
      intro K hK
      (first | (refine Mine.rd_gets 36 _ rfl 0 _ 7 rfl rfl (Nat.le_of_ble_eq_true rfl) _ Try.underlying36 (by rfl) (by kernel_rfl) ?_; (try simp only [Act.put, List.setIfInBounds_toArray, List.set_cons_zero, List.set_cons_succ, List.drop_succ_cons, List.drop_zero, List.take_succ_cons, List.take_zero, putAt, ints_set, ints_push, List.getElem_toArray, List.getElem_cons_zero, List.getElem_cons_succ]); go_big_quiet_on) | (unfold Reads; apply Exists.intro; refine ⟨fun wq hq => ?_, ?_⟩; (clear hq; go_simp; first | done | rfl); (try simp only [Act.put, List.setIfInBounds_toArray, List.set_cons_succ, List.set_cons_zero]); go_big_quiet_on))
      refine HQ.takeL (i := 5) rfl (by kernel_rfl) (by kernel_rfl) (by kernel_rfl) (by omega) rfl (fun _ _ _ _ h => h) ?_
      intro K hK
      (first | (refine Mine.rd_gets 36 _ rfl 0 _ 7 rfl rfl (Nat.le_of_ble_eq_true rfl) _ Try.underlying36 (by rfl) (by kernel_rfl) ?_; (try simp only [Act.put, List.setIfInBounds_toArray, List.set_cons_zero, List.set_cons_succ, List.drop_succ_cons, List.drop_zero, List.take_succ_cons, List.take_zero, putAt, ints_set, ints_push, List.getElem_toArray, List.getElem_cons_zero, List.getElem_cons_succ]); go_big_quiet_on) | (unfold Reads; apply Exists.intro; refine ⟨fun wq hq => ?_, ?_⟩; (clear hq; go_simp; first | done | rfl); (try simp only [Act.put, List.setIfInBounds_toArray, List.set_cons_succ, List.set_cons_zero]); go_big_quiet_on))
      refine HQ.takeL (i := 6) rfl (by kernel_rfl) (by kernel_rfl) (by kernel_rfl) (by omega) rfl (fun _ _ _ _ h => h) ?_
      intro K hK
      (first | (refine Mine.rd_gets 36 _ rfl 0 _ 7 rfl rfl (Nat.le_of_ble_eq_true rfl) _ Try.underlying36 (by rfl) (by kernel_rfl) ?_; (try simp only [Act.put, List.setIfInBounds_toArray, List.set_cons_zero, List.set_cons_succ, List.drop_succ_cons, List.drop_zero, List.take_succ_cons, List.take_zero, putAt, ints_set, ints_push, List.getElem_toArray, List.getElem_cons_zero, List.getElem_cons_succ]); go_big_quiet_on) | (unfold Reads; apply Exists.intro; refine ⟨fun wq hq => ?_, ?_⟩; (clear hq; go_simp; first | done | rfl); (try simp only [Act.put, List.setIfInBounds_toArray, List.set_cons_succ, List.set_cons_zero]); go_big_quiet_on))
      refine HQ.noisy (rs := [7]) (by kernel_rfl) (by simp) (AllG.cons rfl (by omega) (fun K hK => ?_) AllG.nil)
      go_simp
      go_at_call 44
      have M5 := M.out.down2 (_ :: _ :: _ :: _ :: _ :: _ :: _ :: qrows qs pp.queues_)
      refine (spec_pick ps h1 Ap np cp S w HS.out Kw hK4 pp HR.out.1 j hjK _ _ _ _ ⟨qs, (A0, n0, k0), (A1, n1, k1), (A2, n2, k2), (A3, n3, k3), (A4, n4, k4), (A5, n5, k5), (A6, n6, k6), rfl, hq, M5⟩ _ rfl).mono ?_
      rintro e w4 ⟨vs4, rfl, ⟨qs4, ⟨B0, m0, d0⟩, ⟨B1, m1, d1⟩, ⟨B2, m2, d2⟩, ⟨B3, m3, d3⟩, ⟨B4, m4, d4⟩, ⟨B5, m5, d5⟩, ⟨B6, m6, d6⟩, rfl, hq4, M7⟩⟩
      simp only [plc, Hdr.val] at M7
      have M8 := Mine.up2 (_ :: _ :: _ :: _ :: _ :: _ :: _ :: qrows qs4 _) M7
      replace M := Lib.hid M8
      clear M5 M7 M8
      refine hK.out _ _ (M.out.take2) ?_
      clear hK K
      (try simp only [Act.put, List.setIfInBounds_toArray, List.set_cons_succ, List.set_cons_zero])
      refine HQ.end_ (by kernel_rfl) ?_
      simp only [List.drop_succ_cons, List.drop_zero]
      (try simp only [plc, Hdr.val])
      go_wp2_with (first | ((with_reducible show wpList _ _ _ (⟨_, _, _, _, _, none⟩ :: _) _ _); first | (refine Mine.wp_sets M.out rfl 36 _ _ rfl rfl 0 _ rfl rfl _ rfl (Nat.le_of_ble_eq_true rfl) (by simp [Value.oneCell']) (by kernel_rfl) ?_; intro w' M'; (try simp only [Act.put, List.setIfInBounds_toArray, List.set_cons_zero, List.set_cons_succ, List.drop_succ_cons, List.drop_zero, List.take_succ_cons, List.take_zero, putAt, ints_set, ints_push, List.getElem_toArray, List.getElem_cons_zero, List.getElem_cons_succ] at M'); replace M := Lib.hid M'; clear M')))
      go_roundw
      case rel => exact ⟨j + 1, by omega, by go_num, by show ∃ _, _; rw [show pround ps Kw p (j + 1) = pstep ps (pround ps Kw p j) j (((j : Int) + 1) % (Kw : Int)) from rfl, HPP.out]; exact ⟨qs4, (B0, m0, d0), (B1, m1, d1), (B2, m2, d2), (B3, m3, d3), (B4, m4, d4), (B5, m5, d5), (B6, m6, d6), hq4, M.out⟩⟩
      case measure => simp [intOf]; omega
end Go.Proofs.Ytfkbomcbcjjlbaa
