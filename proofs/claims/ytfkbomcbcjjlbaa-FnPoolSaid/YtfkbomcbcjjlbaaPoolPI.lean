/- PoolPlay of the program. No condition but lengths. -/
import Derived.Test.YtfkbomcbcjjlbaaPoolPS
namespace Go.Proofs.Ytfkbomcbcjjlbaa
open Go.RowKit Go.Deep
set_option linter.unusedSimpArgs false
set_option linter.unusedVariables false


set_option maxRecDepth 8000 in
set_option maxHeartbeats 32000000 in
theorem impl_PoolPlay (Ap : Option Addr) (np cp : Nat) (ps : List Int) (wk : Int) (A : Option Addr) (n c : Nat) (l : List Pick) (w : World) (S : Nat → Prop) (hs : Sl w S 1 Ap np (ints ps)) (hm : np ≤ 1048576) (T : Nat → Prop) (ht : Sl w T 2 A n (l.flatMap Pick.cells)) (hn : n ≤ 1048576) :
    Calls Try.prog 25 #[.slice Ap np cp, .int .i64 wk, .slice A n c] w fun e w' => ∃ vs, e = .returned (.agg vs.toArray) ∧ PoolV w w' vs (poolPlay ps wk l) [] := by
  have hnp := hs.len
  have hnl := ht.flen Pick.cells_length (by omega)
  have HS := Lib.hid hs
  have HT := Lib.hid ht
  clear hs ht
  have M := Lib.hid (Mine.refl w)
  have HOK := Lib.hid (fun (w9 : World) (x9 : Ext w w9) => impl_TasksOk Ap np cp ps w9 S (HS.out.ext x9) (by omega))
  by_cases h1 : tasksOk ps = true
  rotate_left
  · skip
    have HTK := Lib.hid (show tasksOk ps = false from by simpa using h1)
    go_enter Try.func25, Try.ntmps25
    go_wp2_with (first | (go_at_call 11; refine (HOK.out _ M.out.ext).mono ?_; rintro e w2 ⟨h9, rfl⟩; rw [HTK.out] at h9; subst h9) | (go_at_call 37; refine (within_any _ _ _ _).mono ?_; rintro e w2 ⟨rfl, rfl⟩) | ((with_reducible show wpList _ _ _ (⟨_, _, _, _, _, none⟩ :: _) _ _); first | (refine Mine.wp_alloc (rs := []) M.out rfl 36 rfl (.agg #[.slice none 0 0, .slice none 0 0, .slice none 0 0, .slice none 0 0, .slice none 0 0, .slice none 0 0, .slice none 0 0]) (by kernel_rfl) ?_; intro gr w' M'; (try simp only [Value.cells, Act.put, List.setIfInBounds_toArray, List.set_cons_zero, List.set_cons_succ, List.drop_succ_cons, List.drop_zero, List.take_succ_cons, List.take_zero, putAt, ints_set, ints_push, List.getElem_toArray, List.getElem_cons_zero, List.getElem_cons_succ] at M'); replace M := Lib.hid M'; clear M'; (try simp only [Act.put, List.setIfInBounds_toArray, List.set_cons_zero, List.set_cons_succ, List.drop_succ_cons, List.drop_zero, List.take_succ_cons, List.take_zero, putAt, ints_set, ints_push, List.getElem_toArray, List.getElem_cons_zero, List.getElem_cons_succ])) | (refine Mine.wp_sets M.out rfl 36 _ _ rfl rfl 0 _ rfl rfl _ rfl (Nat.le_of_ble_eq_true rfl) (by simp [Value.oneCell']) (by kernel_rfl) ?_; intro w' M'; (try simp only [Act.put, List.setIfInBounds_toArray, List.set_cons_zero, List.set_cons_succ, List.drop_succ_cons, List.drop_zero, List.take_succ_cons, List.take_zero, putAt, ints_set, ints_push, List.getElem_toArray, List.getElem_cons_zero, List.getElem_cons_succ] at M'); replace M := Lib.hid M'; clear M')))
    refine bodyPost_ret (M.out.results_cell Try.results25 _ 0 rfl rfl _ Try.underlying36 (by rfl) (by kernel_rfl)) rfl ?_
    have e : poolPlay ps wk l = pzero := if_neg (by exact fun q => h1 q.1)
    rw [e]
    refine ⟨_, rfl, [], (none, 0, 0), (none, 0, 0), (none, 0, 0), (none, 0, 0), (none, 0, 0), (none, 0, 0), (none, 0, 0), rfl, rfl, ?_⟩
    exact ((((((M.out.tail.nil _ _).nil _ _).nil _ _).nil _ _).nil _ _).nil _ _).nil _ _
  have HTK := Lib.hid h1
  by_cases h2 : 1 ≤ wk ∧ wk ≤ 4
  rotate_left
  · skip
    have dw : decide (1 ≤ wk ∧ wk ≤ 4) = false := decide_eq_false h2
    go_enter Try.func25, Try.ntmps25
    go_wp2_with (first | (go_at_call 11; refine (HOK.out _ M.out.ext).mono ?_; rintro e w2 ⟨h9, rfl⟩; rw [HTK.out] at h9; subst h9) | (go_at_call 37; refine (within_any _ _ _ _).mono ?_; rintro e w2 ⟨rfl, rfl⟩) | ((with_reducible show wpList _ _ _ (⟨_, _, _, _, _, none⟩ :: _) _ _); first | (refine Mine.wp_alloc (rs := []) M.out rfl 36 rfl (.agg #[.slice none 0 0, .slice none 0 0, .slice none 0 0, .slice none 0 0, .slice none 0 0, .slice none 0 0, .slice none 0 0]) (by kernel_rfl) ?_; intro gr w' M'; (try simp only [Value.cells, Act.put, List.setIfInBounds_toArray, List.set_cons_zero, List.set_cons_succ, List.drop_succ_cons, List.drop_zero, List.take_succ_cons, List.take_zero, putAt, ints_set, ints_push, List.getElem_toArray, List.getElem_cons_zero, List.getElem_cons_succ] at M'); replace M := Lib.hid M'; clear M'; (try simp only [Act.put, List.setIfInBounds_toArray, List.set_cons_zero, List.set_cons_succ, List.drop_succ_cons, List.drop_zero, List.take_succ_cons, List.take_zero, putAt, ints_set, ints_push, List.getElem_toArray, List.getElem_cons_zero, List.getElem_cons_succ])) | (refine Mine.wp_sets M.out rfl 36 _ _ rfl rfl 0 _ rfl rfl _ rfl (Nat.le_of_ble_eq_true rfl) (by simp [Value.oneCell']) (by kernel_rfl) ?_; intro w' M'; (try simp only [Act.put, List.setIfInBounds_toArray, List.set_cons_zero, List.set_cons_succ, List.drop_succ_cons, List.drop_zero, List.take_succ_cons, List.take_zero, putAt, ints_set, ints_push, List.getElem_toArray, List.getElem_cons_zero, List.getElem_cons_succ] at M'); replace M := Lib.hid M'; clear M')))
    refine bodyPost_ret (M.out.results_cell Try.results25 _ 0 rfl rfl _ Try.underlying36 (by rfl) (by kernel_rfl)) rfl ?_
    have e : poolPlay ps wk l = pzero := if_neg (by exact fun q => h2 q.2.1)
    rw [e]
    refine ⟨_, rfl, [], (none, 0, 0), (none, 0, 0), (none, 0, 0), (none, 0, 0), (none, 0, 0), (none, 0, 0), (none, 0, 0), rfl, rfl, ?_⟩
    exact ((((((M.out.tail.nil _ _).nil _ _).nil _ _).nil _ _).nil _ _).nil _ _).nil _ _
  have dw : decide (1 ≤ wk ∧ wk ≤ 4) = true := decide_eq_true h2
  by_cases h3 : l.length ≤ 300
  rotate_left
  · skip
    have dl : decide (300 < (n : Int)) = true := decide_eq_true (by omega)
    go_enter Try.func25, Try.ntmps25
    go_wp2_with (first | (go_at_call 11; refine (HOK.out _ M.out.ext).mono ?_; rintro e w2 ⟨h9, rfl⟩; rw [HTK.out] at h9; subst h9) | (go_at_call 37; refine (within_any _ _ _ _).mono ?_; rintro e w2 ⟨rfl, rfl⟩) | ((with_reducible show wpList _ _ _ (⟨_, _, _, _, _, none⟩ :: _) _ _); first | (refine Mine.wp_alloc (rs := []) M.out rfl 36 rfl (.agg #[.slice none 0 0, .slice none 0 0, .slice none 0 0, .slice none 0 0, .slice none 0 0, .slice none 0 0, .slice none 0 0]) (by kernel_rfl) ?_; intro gr w' M'; (try simp only [Value.cells, Act.put, List.setIfInBounds_toArray, List.set_cons_zero, List.set_cons_succ, List.drop_succ_cons, List.drop_zero, List.take_succ_cons, List.take_zero, putAt, ints_set, ints_push, List.getElem_toArray, List.getElem_cons_zero, List.getElem_cons_succ] at M'); replace M := Lib.hid M'; clear M'; (try simp only [Act.put, List.setIfInBounds_toArray, List.set_cons_zero, List.set_cons_succ, List.drop_succ_cons, List.drop_zero, List.take_succ_cons, List.take_zero, putAt, ints_set, ints_push, List.getElem_toArray, List.getElem_cons_zero, List.getElem_cons_succ])) | (refine Mine.wp_sets M.out rfl 36 _ _ rfl rfl 0 _ rfl rfl _ rfl (Nat.le_of_ble_eq_true rfl) (by simp [Value.oneCell']) (by kernel_rfl) ?_; intro w' M'; (try simp only [Act.put, List.setIfInBounds_toArray, List.set_cons_zero, List.set_cons_succ, List.drop_succ_cons, List.drop_zero, List.take_succ_cons, List.take_zero, putAt, ints_set, ints_push, List.getElem_toArray, List.getElem_cons_zero, List.getElem_cons_succ] at M'); replace M := Lib.hid M'; clear M')))
    refine bodyPost_ret (M.out.results_cell Try.results25 _ 0 rfl rfl _ Try.underlying36 (by rfl) (by kernel_rfl)) rfl ?_
    have e : poolPlay ps wk l = pzero := if_neg (by exact fun q => h3 q.2.2)
    rw [e]
    refine ⟨_, rfl, [], (none, 0, 0), (none, 0, 0), (none, 0, 0), (none, 0, 0), (none, 0, 0), (none, 0, 0), (none, 0, 0), rfl, rfl, ?_⟩
    exact ((((((M.out.tail.nil _ _).nil _ _).nil _ _).nil _ _).nil _ _).nil _ _).nil _ _
  have dl : decide (300 < (n : Int)) = false := decide_eq_false (by omega)
  have ep : poolPlay ps wk l = pplay ps wk.toNat (pks l) l.length := if_pos ⟨h1, h2, h3⟩
  obtain ⟨K, rfl⟩ : ∃ K : Nat, wk = (K : Int) := ⟨wk.toNat, by omega⟩
  rw [Int.toNat_natCast] at ep
  have HP := Lib.hid ep
  have hK4 : K ≤ 4 := by omega
  have hK1 : 0 < K := by omega
  have hps := task_len h1
  have hpL : (pks l).length = l.length := by simp [pks]
  have HI := Lib.hid (fun k (hk : k ≤ l.length) => play_inv h1 hK1 (pks l) k (by omega))
  clear ep
  go_enter Try.func25, Try.ntmps25
  go_wp2_with (first | (go_at_call 11; refine (HOK.out _ M.out.ext).mono ?_; rintro e w2 ⟨h9, rfl⟩; rw [HTK.out] at h9; subst h9) | (go_at_call 37; refine (within_any _ _ _ _).mono ?_; rintro e w2 ⟨rfl, rfl⟩) | ((with_reducible show wpList _ _ _ (⟨_, _, _, _, _, none⟩ :: _) _ _); first | (refine Mine.wp_alloc (rs := []) M.out rfl 36 rfl (.agg #[.slice none 0 0, .slice none 0 0, .slice none 0 0, .slice none 0 0, .slice none 0 0, .slice none 0 0, .slice none 0 0]) (by kernel_rfl) ?_; intro gr w' M'; (try simp only [Value.cells, Act.put, List.setIfInBounds_toArray, List.set_cons_zero, List.set_cons_succ, List.drop_succ_cons, List.drop_zero, List.take_succ_cons, List.take_zero, putAt, ints_set, ints_push, List.getElem_toArray, List.getElem_cons_zero, List.getElem_cons_succ] at M'); replace M := Lib.hid M'; clear M'; (try simp only [Act.put, List.setIfInBounds_toArray, List.set_cons_zero, List.set_cons_succ, List.drop_succ_cons, List.drop_zero, List.take_succ_cons, List.take_zero, putAt, ints_set, ints_push, List.getElem_toArray, List.getElem_cons_zero, List.getElem_cons_succ]))))
  go_cut [8] from 30 (fun v8 wr => ∃ g8, v8 = .pointer (some ⟨g8, 0, none⟩) ∧ ∃ gQ gC gS gL gT, Mine w wr (.box gr 36 #[.slice none 0 0, .slice none 0 0, .slice none 0 0, .slice none 0 0, .slice none 0 0, .slice none 0 0, .slice none 0 0] :: .box g8 36 #[.slice (some ⟨gQ, 0, none⟩) K K, .slice (some ⟨gC, 0, none⟩) K K, .slice (some ⟨gS, 0, none⟩) np np, .slice (some ⟨gL, 0, none⟩) np np, .slice (some ⟨gT, 0, none⟩) np np, .slice none 0 0, .slice none 0 0] :: .row 62 1 (some ⟨gQ, 0, none⟩) K K (qcells (List.replicate K (none, 0, 0))) :: .row 3 1 (some ⟨gC, 0, none⟩) K K (ints (List.replicate K 0)) :: .row 3 1 (some ⟨gS, 0, none⟩) np np (ints (List.replicate np 0)) :: .row 3 1 (some ⟨gL, 0, none⟩) np np (ints (List.replicate np 0)) :: .row 3 1 (some ⟨gT, 0, none⟩) np np (ints (List.replicate np 0)) :: []))
  · skip
    refine Mine.region_head M.out 12 (by kernel_rfl) (by kernel_rfl) ?_
    intro w' M'
    replace M := Lib.hid M'
    clear M'
    refine HQ.takeL (i := 0) rfl (by kernel_rfl) (by kernel_rfl) (by kernel_rfl) (by omega) rfl (fun _ _ _ _ h => h) ?_
    intro K hK
    (first | (unfold Reads; apply Exists.intro; refine ⟨fun wq hq => ?_, ?_⟩; (clear hq; go_simp; first | done | rfl); (try simp only [Act.put, List.setIfInBounds_toArray, List.set_cons_succ, List.set_cons_zero]); go_big_quiet_on))
    refine HQ.takeL (i := 2) rfl (by kernel_rfl) (by kernel_rfl) (by kernel_rfl) (by omega) rfl (fun _ _ _ _ h => h) ?_
    intro K hK
    (first | (unfold Reads; apply Exists.intro; refine ⟨fun wq hq => ?_, ?_⟩; (clear hq; go_simp; first | done | rfl); (try simp only [Act.put, List.setIfInBounds_toArray, List.set_cons_succ, List.set_cons_zero]); go_big_quiet_on))
    refine HQ.takeL (i := 4) rfl (by kernel_rfl) (by kernel_rfl) (by kernel_rfl) (by omega) rfl (fun _ _ _ _ h => h) ?_
    intro K hK
    (first | (unfold Reads; apply Exists.intro; refine ⟨fun wq hq => ?_, ?_⟩; (clear hq; go_simp; first | done | rfl); (try simp only [Act.put, List.setIfInBounds_toArray, List.set_cons_succ, List.set_cons_zero]); go_big_quiet_on))
    refine HQ.takeL (i := 6) rfl (by kernel_rfl) (by kernel_rfl) (by kernel_rfl) (by omega) rfl (fun _ _ _ _ h => h) ?_
    intro K hK
    (first | (unfold Reads; apply Exists.intro; refine ⟨fun wq hq => ?_, ?_⟩; (clear hq; go_simp; first | done | rfl); (try simp only [Act.put, List.setIfInBounds_toArray, List.set_cons_succ, List.set_cons_zero]); go_big_quiet_on))
    refine HQ.takeL (i := 8) rfl (by kernel_rfl) (by kernel_rfl) (by kernel_rfl) (by omega) rfl (fun _ _ _ _ h => h) ?_
    intro K hK
    (first | (unfold Reads; apply Exists.intro; refine ⟨fun wq hq => ?_, ?_⟩; (clear hq; go_simp; first | done | rfl); (try simp only [Act.put, List.setIfInBounds_toArray, List.set_cons_succ, List.set_cons_zero]); go_big_quiet_on))
    refine HQ.grows (D := [1, 3, 5, 7, 9]) (E := [11]) (fun i v r => if i = 11 then (∃ g, v = .pointer (some ⟨g, 0, none⟩) ∧ r = .box g 36 #[.slice none 0 0, .slice none 0 0, .slice none 0 0, .slice none 0 0, .slice none 0 0, .slice none 0 0, .slice none 0 0]) else if i = 1 then (∃ g, v = .slice (some ⟨g, 0, none⟩) K K ∧ r = .row 62 1 (some ⟨g, 0, none⟩) K K (qcells (List.replicate K (none, 0, 0)))) else if i = 3 then (∃ g, v = .slice (some ⟨g, 0, none⟩) K K ∧ r = .row 3 1 (some ⟨g, 0, none⟩) K K (ints (List.replicate K 0))) else (∃ g, v = .slice (some ⟨g, 0, none⟩) np np ∧ r = .row 3 1 (some ⟨g, 0, none⟩) np np (ints (List.replicate np 0)))) 1 (by kernel_rfl) (by kernel_rfl) (by simp) ?gro M.out ?cont
    case gro =>
      intro i hi o ho
      simp only [List.cons_append, List.nil_append, List.mem_cons, List.not_mem_nil, or_false] at hi
      rcases hi with rfl | rfl | rfl | rfl | rfl | rfl
      · obtain rfl := Option.some.inj ho
        refine Gro.imp (Gro.make 34 _ _ rfl 62 (.agg #[.slice none 0 0]) 1 24 Try.underlying34 (by kernel_rfl) K rfl rfl (by omega) (by unfold maxLen; omega)) ?_
        rintro v r ⟨g, hv, hr⟩
        rw [made_qs] at hr
        exact ⟨g, hv, hr⟩
      · obtain rfl := Option.some.inj ho
        refine Gro.imp (Gro.make 22 _ _ rfl 3 (.int .i64 0) 1 8 Try.underlying22 (by kernel_rfl) K rfl rfl (by omega) (by unfold maxLen; omega)) ?_
        rintro v r ⟨g, hv, hr⟩
        rw [made_ints] at hr
        exact ⟨g, hv, hr⟩
      · obtain rfl := Option.some.inj ho
        refine Gro.imp (Gro.make 22 _ _ rfl 3 (.int .i64 0) 1 8 Try.underlying22 (by kernel_rfl) np rfl rfl (by omega) (by unfold maxLen; omega)) ?_
        rintro v r ⟨g, hv, hr⟩
        rw [made_ints] at hr
        exact ⟨g, hv, hr⟩
      · obtain rfl := Option.some.inj ho
        refine Gro.imp (Gro.make 22 _ _ rfl 3 (.int .i64 0) 1 8 Try.underlying22 (by kernel_rfl) np rfl rfl (by omega) (by unfold maxLen; omega)) ?_
        rintro v r ⟨g, hv, hr⟩
        rw [made_ints] at hr
        exact ⟨g, hv, hr⟩
      · obtain rfl := Option.some.inj ho
        refine Gro.imp (Gro.make 22 _ _ rfl 3 (.int .i64 0) 1 8 Try.underlying22 (by kernel_rfl) np rfl rfl (by omega) (by unfold maxLen; omega)) ?_
        rintro v r ⟨g, hv, hr⟩
        rw [made_ints] at hr
        exact ⟨g, hv, hr⟩
      · obtain rfl := Option.some.inj ho
        refine Gro.imp (Gro.alloc 36 rfl (.agg #[.slice none 0 0, .slice none 0 0, .slice none 0 0, .slice none 0 0, .slice none 0 0, .slice none 0 0, .slice none 0 0]) (by kernel_rfl)) ?_
        rintro v r ⟨g, hv, hr⟩
        exact ⟨g, hv, hr⟩
    case cont =>
      intro Es hEs vals rows hv w' M'
      rcases hEs with rfl | rfl
      · skip
        obtain ⟨gQ, hv1, hr1⟩ := hv 1 (by simp)
        obtain ⟨gC, hv3, hr3⟩ := hv 3 (by simp)
        obtain ⟨gS, hv5, hr5⟩ := hv 5 (by simp)
        obtain ⟨gL, hv7, hr7⟩ := hv 7 (by simp)
        obtain ⟨gT, hv9, hr9⟩ := hv 9 (by simp)
        simp only [List.cons_append, List.nil_append, List.append_nil, List.map_cons, List.map_nil, hr1, hr3, hr5, hr7, hr9] at M'
        replace M := Lib.hid M'
        clear M'
        simp only [List.cons_append, List.nil_append, List.append_nil, putAll, setAll, List.foldl_cons, List.foldl_nil]
        simp only [dAt_succ, dAt_zero]
        simp only [hv1, hv3, hv5, hv7, hv9]
        simp only [Act.put, List.setIfInBounds_toArray, List.set_cons_succ, List.set_cons_zero]
        clear hv
        show HQ _ _ _ _ _ _ 2 _ _ _
        refine HQ.takeL (i := 10) rfl (by kernel_rfl) (by kernel_rfl) (by kernel_rfl) (by omega) rfl (fun _ _ _ _ h => h) ?_
        intro K hK
        (first | (unfold Reads; apply Exists.intro; refine ⟨fun wq hq => ?_, ?_⟩; (clear hq; go_simp; first | done | rfl); (try simp only [Act.put, List.setIfInBounds_toArray, List.set_cons_succ, List.set_cons_zero]); go_big_quiet_on))
        refine HQ.noisy (rs := [11]) (by kernel_rfl) (by simp) (AllG.cons rfl (by omega) (fun K hK => ?_) AllG.nil)
        go_simp
        replace M := Lib.hid (M.out.box 36 #[.slice none 0 0, .slice none 0 0, .slice none 0 0, .slice none 0 0, .slice none 0 0, .slice none 0 0, .slice none 0 0])
        refine hK.out _ _ (M.out.sub (List.Sublist.trans (List.sublist_append_right [_, _, _, _, _, _] [_]) (List.Sublist.refl _))) ?_
        clear hK K
        (try simp only [Act.put, List.setIfInBounds_toArray, List.set_cons_succ, List.set_cons_zero])
        refine HQ.end_ (by kernel_rfl) ?_
        simp only [List.drop_succ_cons, List.drop_zero]
        go_wp2_with (first | ((with_reducible show wpList _ _ _ (⟨_, _, _, _, _, none⟩ :: _) _ _); first | (refine Mine.wp_sets M.out rfl 36 _ _ rfl rfl 0 _ rfl rfl _ rfl (Nat.le_of_ble_eq_true rfl) (by simp [Value.oneCell']) (by kernel_rfl) ?_; intro w' M'; (try simp only [Act.put, List.setIfInBounds_toArray, List.set_cons_zero, List.set_cons_succ, List.drop_succ_cons, List.drop_zero, List.take_succ_cons, List.take_zero, putAt, ints_set, ints_push, List.getElem_toArray, List.getElem_cons_zero, List.getElem_cons_succ] at M'); replace M := Lib.hid M'; clear M')))
        go_meet
        case rel => exact ⟨_, rfl, gQ, gC, gS, gL, gT, (M.out.rise [_, _, _, _, _, _])⟩
      · skip
        obtain ⟨gQ, hv1, hr1⟩ := hv 1 (by simp)
        obtain ⟨gC, hv3, hr3⟩ := hv 3 (by simp)
        obtain ⟨gS, hv5, hr5⟩ := hv 5 (by simp)
        obtain ⟨gL, hv7, hr7⟩ := hv 7 (by simp)
        obtain ⟨gT, hv9, hr9⟩ := hv 9 (by simp)
        obtain ⟨g8, hv11, hr11⟩ := hv 11 (by simp)
        simp only [List.cons_append, List.nil_append, List.append_nil, List.map_cons, List.map_nil, hr1, hr3, hr5, hr7, hr9, hr11] at M'
        replace M := Lib.hid M'
        clear M'
        simp only [List.cons_append, List.nil_append, List.append_nil, putAll, setAll, List.foldl_cons, List.foldl_nil]
        simp only [dAt_succ, dAt_zero]
        simp only [hv1, hv3, hv5, hv7, hv9, hv11]
        simp only [Act.put, List.setIfInBounds_toArray, List.set_cons_succ, List.set_cons_zero]
        clear hv
        show HQ _ _ _ _ _ _ 1 _ _ _
        refine HQ.takeL (i := 10) rfl (by kernel_rfl) (by kernel_rfl) (by kernel_rfl) (by omega) rfl (fun _ _ _ _ h => h) ?_
        intro K hK
        (first | (unfold Reads; apply Exists.intro; refine ⟨fun wq hq => ?_, ?_⟩; (clear hq; go_simp; first | done | rfl); (try simp only [Act.put, List.setIfInBounds_toArray, List.set_cons_succ, List.set_cons_zero]); go_big_quiet_on))
        refine HQ.end_ (by kernel_rfl) ?_
        simp only [List.drop_succ_cons, List.drop_zero]
        go_wp2_with (first | ((with_reducible show wpList _ _ _ (⟨_, _, _, _, _, none⟩ :: _) _ _); first | (refine Mine.wp_sets M.out rfl 36 _ _ rfl rfl 5 _ rfl rfl _ rfl (Nat.le_of_ble_eq_true rfl) (by simp [Value.oneCell']) (by kernel_rfl) ?_; intro w' M'; (try simp only [Act.put, List.setIfInBounds_toArray, List.set_cons_zero, List.set_cons_succ, List.drop_succ_cons, List.drop_zero, List.take_succ_cons, List.take_zero, putAt, ints_set, ints_push, List.getElem_toArray, List.getElem_cons_zero, List.getElem_cons_succ] at M'); replace M := Lib.hid M'; clear M')))
        go_meet
        case rel => exact ⟨_, rfl, gQ, gC, gS, gL, gT, ((M.out.rise [_, _, _, _, _]).rise [_, _, _, _, _, _])⟩
  clear M
  obtain ⟨g8, rfl, gQ, gC, gS, gL, gT, M1⟩ := hcut
  have M := Lib.hid (((M1.nilEnd 3 1).nilEnd 3 1).nils K)
  clear M1
  simp only [List.cons_append, List.nil_append] at M
  go_wp2_with (first | ((with_reducible show wpList _ _ _ (⟨_, _, _, _, _, none⟩ :: _) _ _); first | (refine Mine.wp_get M.out rfl _ _ rfl 1 _ rfl rfl _ rfl _ (by first | exact Try.underlying3 | exact Try.underlying22 | exact Try.underlying34) (by rfl) ?_; (try simp only [Act.put, List.setIfInBounds_toArray, List.set_cons_zero, List.set_cons_succ, List.drop_succ_cons, List.drop_zero, List.take_succ_cons, List.take_zero, putAt, ints_set, ints_push, List.getElem_toArray, List.getElem_cons_zero, List.getElem_cons_succ]))))
  go_loopw [44] (fun i wr => ∃ k : Nat, k ≤ K ∧ i = .int .i64 k ∧ Mine w wr (.box gr 36 #[.slice none 0 0, .slice none 0 0, .slice none 0 0, .slice none 0 0, .slice none 0 0, .slice none 0 0, .slice none 0 0] :: .box g8 36 #[.slice (some ⟨gQ, 0, none⟩) K K, .slice (some ⟨gC, 0, none⟩) K K, .slice (some ⟨gS, 0, none⟩) np np, .slice (some ⟨gL, 0, none⟩) np np, .slice (some ⟨gT, 0, none⟩) np np, .slice none 0 0, .slice none 0 0] :: .row 62 1 (some ⟨gQ, 0, none⟩) K K (qcells (List.replicate K (none, 0, 0))) :: .row 3 1 (some ⟨gC, 0, none⟩) K K (ints (List.replicate k (-1) ++ List.replicate (K - k) 0)) :: .row 3 1 (some ⟨gS, 0, none⟩) np np (ints (List.replicate np 0)) :: .row 3 1 (some ⟨gL, 0, none⟩) np np (ints (List.replicate np 0)) :: .row 3 1 (some ⟨gT, 0, none⟩) np np (ints (List.replicate np 0)) :: .row 3 1 none 0 0 ([]) :: .row 3 1 none 0 0 ([]) :: qrows (List.replicate K (none, 0, 0)) (List.replicate K ⟨[]⟩))) (fun i _ => K - (intOf i).toNat)
  case atStart => exact ⟨0, Nat.zero_le _, rfl, M.out⟩
  case round =>
    clear M
    obtain ⟨k, hk, rfl, M1⟩ := hrel
    have M := Lib.hid M1
    clear M1
    by_cases hlt : (k : Int) < (K : Int)
    · go_wp2_with (first | ((with_reducible show wpList _ _ _ (⟨_, _, _, _, _, none⟩ :: _) _ _); first | (refine Mine.wp_get M.out rfl _ _ rfl 1 _ rfl rfl _ rfl _ (by first | exact Try.underlying3 | exact Try.underlying22 | exact Try.underlying34) (by rfl) ?_; (try simp only [Act.put, List.setIfInBounds_toArray, List.set_cons_zero, List.set_cons_succ, List.drop_succ_cons, List.drop_zero, List.take_succ_cons, List.take_zero, putAt, ints_set, ints_push, List.getElem_toArray, List.getElem_cons_zero, List.getElem_cons_succ])) | (refine Mine.wp_put M.out rfl _ _ _ rfl rfl 3 _ rfl rfl _ (by (conv => lhs; whnf) <;> rfl) (by omega) (by rfl) (by kernel_rfl) ?_; intro w' M'; (try simp only [Act.put, List.setIfInBounds_toArray, List.set_cons_zero, List.set_cons_succ, List.drop_succ_cons, List.drop_zero, List.take_succ_cons, List.take_zero, putAt, ints_set, ints_push, List.getElem_toArray, List.getElem_cons_zero, List.getElem_cons_succ] at M'); replace M := Lib.hid M'; clear M')))
      rw [rep_set (by omega)] at M
      go_roundw
      case rel => exact ⟨k + 1, by omega, by go_num, M.out⟩
      case measure => simp [intOf]; omega
    obtain rfl : k = K := by omega
    rw [Nat.sub_self, List.replicate_zero, List.append_nil] at M
    have MP := Lib.hid (play_zero hnp hK1 M.out)
    go_wp2_with fail
    go_loopw [54] (fun i wr => ∃ j : Nat, j ≤ np ∧ i = .int .i64 j ∧ ∃ (qs : List Hdr) (H0 HC HS HL HT HR HE : Hdr), qs.length = (pinit ps k j).queues_.length ∧ Mine w wr (.box gr 36 #[.slice none 0 0, .slice none 0 0, .slice none 0 0, .slice none 0 0, .slice none 0 0, .slice none 0 0, .slice none 0 0] :: .box g8 36 (plc H0 HC HS HL HT HR HE).toArray :: .row 62 1 H0.1 H0.2.1 H0.2.2 (qcells qs) :: .row 3 1 HC.1 HC.2.1 HC.2.2 (ints (pinit ps k j).cur_) :: .row 3 1 HS.1 HS.2.1 HS.2.2 (ints (pinit ps k j).spawned_) :: .row 3 1 HL.1 HL.2.1 HL.2.2 (ints (pinit ps k j).left_) :: .row 3 1 HT.1 HT.2.1 HT.2.2 (ints (pinit ps k j).state_) :: .row 3 1 HR.1 HR.2.1 HR.2.2 (ints (pinit ps k j).ran_) :: .row 3 1 HE.1 HE.2.1 HE.2.2 (ints (pinit ps k j).ended_) :: (qrows qs (pinit ps k j).queues_ ++ []))) (fun i _ => np - (intOf i).toNat)
    case atStart => exact ⟨0, Nat.zero_le _, rfl, MP.out⟩
    case round =>
    clear M MP
    obtain ⟨j, hj, rfl, qs, ⟨AQ, nQ, cQ⟩, ⟨AC, nC, cC⟩, ⟨AS, nS, cS⟩, ⟨AL, nL, cL⟩, ⟨AT, nT, cT⟩, ⟨AR, nR, cR⟩, ⟨AE, nE, cE⟩, hq, M1⟩ := hrel
    simp only [plc, Hdr.val, pinit] at M1 hq
    have M := Lib.hid M1
    clear M1
    have hlQ := M.out.len1 2 rfl
    have hlC := M.out.len1 3 rfl
    have hlS := M.out.len1 4 rfl
    have hlL := M.out.len1 5 rfl
    have hlT := M.out.len1 6 rfl
    have hlR := M.out.len1 7 rfl
    have hlE := M.out.len1 8 rfl
    rw [ints_length] at hlC hlS hlL hlT hlR hlE
    by_cases hlt : (j : Int) < (np : Int)
    · skip
      obtain ⟨bP, oP, rfl⟩ := HS.out.addr (by omega)
      obtain ⟨y, hy, hyb, hyc⟩ := HS.out.int_cell (k := j) (by omega)
      have eyy := gi_of hy
      have HY := Lib.hid (And.intro hyc hyb)
      have EY := Lib.hid eyy
      clear hy hyb hyc eyy
      rw [rst_len] at hlT
      obtain ⟨gT2, rfl⟩ := M.out.addr 6 rfl (by omega)
      by_cases hy : y < 0
      rotate_left
      · have by0 : decide (y < 0) = false := decide_eq_false hy
        go_wp2_with (first | ((with_reducible show wpList _ _ _ (⟨_, _, _, _, _, none⟩ :: _) _ _); first | (refine Mine.wp_arg M.out rfl _ _ rfl _ _ HY.out rfl _ (by first | exact Try.underlying3 | exact Try.underlying22) (by rfl) ?_; (try simp only [Act.put, List.setIfInBounds_toArray, List.set_cons_zero, List.set_cons_succ, List.drop_succ_cons, List.drop_zero, List.take_succ_cons, List.take_zero, putAt, ints_set, ints_push, List.getElem_toArray, List.getElem_cons_zero, List.getElem_cons_succ]))))
        go_roundw
        case rel => exact ⟨j + 1, by omega, by go_num, by rw [pinit_miss (by rw [EY.out]; exact hy)]; exact ⟨qs, (AQ, nQ, cQ), (AC, nC, cC), (AS, nS, cS), (AL, nL, cL), (some ⟨gT2, 0, none⟩, nT, cT), (AR, nR, cR), (AE, nE, cE), hq, M.out⟩⟩
        case measure => simp [intOf]; omega
      have by0 : decide (y < 0) = true := decide_eq_true hy
      obtain ⟨⟨Aq, nq, cq⟩, htW⟩ : ∃ tq, qs[0]? = some tq := ⟨_, List.getElem?_eq_getElem (by rw [hq]; simp)⟩
      have cW := qcells_get htW
      have rW := app_get (fr := ([] : List Res)) (qrows_get (os := (⟨roots ps j⟩ :: List.replicate (k - 1) ⟨[]⟩ : List Order)) htW rfl)
      simp only at cW rW
      have hrl := roots_le ps j
      have hlq2 : (roots ps j).length = nq := by have := M.out.len1 9 rW; rw [ints_length] at this; exact this
      have RW := Lib.hid rW
      have hQl := hlQ
      unfold qcells at hQl
      rw [List.length_map, hq, List.length_cons] at hQl
      obtain ⟨gQ2, rfl⟩ := M.out.addr 2 rfl (by omega)
      have hQ0 : (0 : Int) < (nQ : Int) := by omega
      have h0Q : 0 < nQ := by omega
      clear rW hQl
      go_wp2_with (first | ((with_reducible show wpList _ _ _ (⟨_, _, _, _, _, none⟩ :: _) _ _); first | (refine Mine.wp_arg M.out rfl _ _ rfl _ _ HY.out rfl _ (by first | exact Try.underlying3 | exact Try.underlying22) (by rfl) ?_; (try simp only [Act.put, List.setIfInBounds_toArray, List.set_cons_zero, List.set_cons_succ, List.drop_succ_cons, List.drop_zero, List.take_succ_cons, List.take_zero, putAt, ints_set, ints_push, List.getElem_toArray, List.getElem_cons_zero, List.getElem_cons_succ]))))
      have MT := Lib.hid M.out.take4
      refine Mine.region_headS MT.out M.out 10 (by kernel_rfl) (by kernel_rfl) ?_
      intro w' M'
      replace M := Lib.hid M'
      clear M'
      refine HQ.takeL (i := 0) rfl (by kernel_rfl) (by kernel_rfl) (by kernel_rfl) (by omega) rfl (fun _ _ _ _ h => h) ?_
      intro K hK
      (first | (refine Mine.rd_get _ _ rfl 1 _ rfl rfl _ rfl _ (by first | exact Try.underlying3 | exact Try.underlying22 | exact Try.underlying34) (by rfl) ?_; (try simp only [Act.put, List.setIfInBounds_toArray, List.set_cons_zero, List.set_cons_succ, List.drop_succ_cons, List.drop_zero, List.take_succ_cons, List.take_zero, putAt, ints_set, ints_push, List.getElem_toArray, List.getElem_cons_zero, List.getElem_cons_succ]); go_big_quiet_on) | (refine Mine.rd_getr _ _ rfl 2 _ rfl rfl _ (by assumption) _ (by first | exact Try.underlying3 | exact Try.underlying22 | exact Try.underlying34) (by rfl) ?_; (try simp only [Act.put, List.setIfInBounds_toArray, List.set_cons_zero, List.set_cons_succ, List.drop_succ_cons, List.drop_zero, List.take_succ_cons, List.take_zero, putAt, ints_set, ints_push, List.getElem_toArray, List.getElem_cons_zero, List.getElem_cons_succ]); go_big_quiet_on) | (unfold Reads; apply Exists.intro; refine ⟨fun wq hq => ?_, ?_⟩; (clear hq; go_simp; first | done | rfl); (try simp only [Act.put, List.setIfInBounds_toArray, List.set_cons_succ, List.set_cons_zero]); go_big_quiet_on))
      refine HQ.takeL (i := 1) rfl (by kernel_rfl) (by kernel_rfl) (by kernel_rfl) (by omega) rfl (fun _ _ _ _ h => h) ?_
      intro K hK
      (first | (refine Mine.rd_get _ _ rfl 1 _ rfl rfl _ rfl _ (by first | exact Try.underlying3 | exact Try.underlying22 | exact Try.underlying34) (by rfl) ?_; (try simp only [Act.put, List.setIfInBounds_toArray, List.set_cons_zero, List.set_cons_succ, List.drop_succ_cons, List.drop_zero, List.take_succ_cons, List.take_zero, putAt, ints_set, ints_push, List.getElem_toArray, List.getElem_cons_zero, List.getElem_cons_succ]); go_big_quiet_on) | (refine Mine.rd_getr _ _ rfl 2 _ rfl rfl _ (by assumption) _ (by first | exact Try.underlying3 | exact Try.underlying22 | exact Try.underlying34) (by rfl) ?_; (try simp only [Act.put, List.setIfInBounds_toArray, List.set_cons_zero, List.set_cons_succ, List.drop_succ_cons, List.drop_zero, List.take_succ_cons, List.take_zero, putAt, ints_set, ints_push, List.getElem_toArray, List.getElem_cons_zero, List.getElem_cons_succ]); go_big_quiet_on) | (unfold Reads; apply Exists.intro; refine ⟨fun wq hq => ?_, ?_⟩; (clear hq; go_simp; first | done | rfl); (try simp only [Act.put, List.setIfInBounds_toArray, List.set_cons_succ, List.set_cons_zero]); go_big_quiet_on))
      refine HQ.takeL (i := 2) rfl (by kernel_rfl) (by kernel_rfl) (by kernel_rfl) (by omega) rfl (fun _ _ _ _ h => h) ?_
      intro K hK
      (first | (refine Mine.rd_get _ _ rfl 1 _ rfl rfl _ rfl _ (by first | exact Try.underlying3 | exact Try.underlying22 | exact Try.underlying34) (by rfl) ?_; (try simp only [Act.put, List.setIfInBounds_toArray, List.set_cons_zero, List.set_cons_succ, List.drop_succ_cons, List.drop_zero, List.take_succ_cons, List.take_zero, putAt, ints_set, ints_push, List.getElem_toArray, List.getElem_cons_zero, List.getElem_cons_succ]); go_big_quiet_on) | (refine Mine.rd_getr _ _ rfl 2 _ rfl rfl _ (by assumption) _ (by first | exact Try.underlying3 | exact Try.underlying22 | exact Try.underlying34) (by rfl) ?_; (try simp only [Act.put, List.setIfInBounds_toArray, List.set_cons_zero, List.set_cons_succ, List.drop_succ_cons, List.drop_zero, List.take_succ_cons, List.take_zero, putAt, ints_set, ints_push, List.getElem_toArray, List.getElem_cons_zero, List.getElem_cons_succ]); go_big_quiet_on) | (unfold Reads; apply Exists.intro; refine ⟨fun wq hq => ?_, ?_⟩; (clear hq; go_simp; first | done | rfl); (try simp only [Act.put, List.setIfInBounds_toArray, List.set_cons_succ, List.set_cons_zero]); go_big_quiet_on))
      refine HQ.takeL (i := 3) rfl (by kernel_rfl) (by kernel_rfl) (by kernel_rfl) (by omega) rfl (fun _ _ _ _ h => h) ?_
      intro K hK
      (first | (refine Mine.rd_get _ _ rfl 1 _ rfl rfl _ rfl _ (by first | exact Try.underlying3 | exact Try.underlying22 | exact Try.underlying34) (by rfl) ?_; (try simp only [Act.put, List.setIfInBounds_toArray, List.set_cons_zero, List.set_cons_succ, List.drop_succ_cons, List.drop_zero, List.take_succ_cons, List.take_zero, putAt, ints_set, ints_push, List.getElem_toArray, List.getElem_cons_zero, List.getElem_cons_succ]); go_big_quiet_on) | (refine Mine.rd_getr _ _ rfl 2 _ rfl rfl _ (by assumption) _ (by first | exact Try.underlying3 | exact Try.underlying22 | exact Try.underlying34) (by rfl) ?_; (try simp only [Act.put, List.setIfInBounds_toArray, List.set_cons_zero, List.set_cons_succ, List.drop_succ_cons, List.drop_zero, List.take_succ_cons, List.take_zero, putAt, ints_set, ints_push, List.getElem_toArray, List.getElem_cons_zero, List.getElem_cons_succ]); go_big_quiet_on) | (unfold Reads; apply Exists.intro; refine ⟨fun wq hq => ?_, ?_⟩; (clear hq; go_simp; first | done | rfl); (try simp only [Act.put, List.setIfInBounds_toArray, List.set_cons_succ, List.set_cons_zero]); go_big_quiet_on))
      refine HQ.takeL (i := 4) rfl (by kernel_rfl) (by kernel_rfl) (by kernel_rfl) (by omega) rfl (fun _ _ _ _ h => h) ?_
      intro K hK
      (first | (refine Mine.rd_get _ _ rfl 1 _ rfl rfl _ rfl _ (by first | exact Try.underlying3 | exact Try.underlying22 | exact Try.underlying34) (by rfl) ?_; (try simp only [Act.put, List.setIfInBounds_toArray, List.set_cons_zero, List.set_cons_succ, List.drop_succ_cons, List.drop_zero, List.take_succ_cons, List.take_zero, putAt, ints_set, ints_push, List.getElem_toArray, List.getElem_cons_zero, List.getElem_cons_succ]); go_big_quiet_on) | (refine Mine.rd_getr _ _ rfl 2 _ rfl rfl _ (by assumption) _ (by first | exact Try.underlying3 | exact Try.underlying22 | exact Try.underlying34) (by rfl) ?_; (try simp only [Act.put, List.setIfInBounds_toArray, List.set_cons_zero, List.set_cons_succ, List.drop_succ_cons, List.drop_zero, List.take_succ_cons, List.take_zero, putAt, ints_set, ints_push, List.getElem_toArray, List.getElem_cons_zero, List.getElem_cons_succ]); go_big_quiet_on) | (unfold Reads; apply Exists.intro; refine ⟨fun wq hq => ?_, ?_⟩; (clear hq; go_simp; first | done | rfl); (try simp only [Act.put, List.setIfInBounds_toArray, List.set_cons_succ, List.set_cons_zero]); go_big_quiet_on))
      refine HQ.takeL (i := 5) rfl (by kernel_rfl) (by kernel_rfl) (by kernel_rfl) (by omega) rfl (fun _ _ _ _ h => h) ?_
      intro K hK
      (first | (refine Mine.rd_get _ _ rfl 1 _ rfl rfl _ rfl _ (by first | exact Try.underlying3 | exact Try.underlying22 | exact Try.underlying34) (by rfl) ?_; (try simp only [Act.put, List.setIfInBounds_toArray, List.set_cons_zero, List.set_cons_succ, List.drop_succ_cons, List.drop_zero, List.take_succ_cons, List.take_zero, putAt, ints_set, ints_push, List.getElem_toArray, List.getElem_cons_zero, List.getElem_cons_succ]); go_big_quiet_on) | (refine Mine.rd_getr _ _ rfl 2 _ rfl rfl _ (by assumption) _ (by first | exact Try.underlying3 | exact Try.underlying22 | exact Try.underlying34) (by rfl) ?_; (try simp only [Act.put, List.setIfInBounds_toArray, List.set_cons_zero, List.set_cons_succ, List.drop_succ_cons, List.drop_zero, List.take_succ_cons, List.take_zero, putAt, ints_set, ints_push, List.getElem_toArray, List.getElem_cons_zero, List.getElem_cons_succ]); go_big_quiet_on) | (unfold Reads; apply Exists.intro; refine ⟨fun wq hq => ?_, ?_⟩; (clear hq; go_simp; first | done | rfl); (try simp only [Act.put, List.setIfInBounds_toArray, List.set_cons_succ, List.set_cons_zero]); go_big_quiet_on))
      refine HQ.takeL (i := 6) rfl (by kernel_rfl) (by kernel_rfl) (by kernel_rfl) (by omega) rfl (fun _ _ _ _ h => h) ?_
      intro K hK
      (first | (refine Mine.rd_get _ _ rfl 1 _ rfl rfl _ rfl _ (by first | exact Try.underlying3 | exact Try.underlying22 | exact Try.underlying34) (by rfl) ?_; (try simp only [Act.put, List.setIfInBounds_toArray, List.set_cons_zero, List.set_cons_succ, List.drop_succ_cons, List.drop_zero, List.take_succ_cons, List.take_zero, putAt, ints_set, ints_push, List.getElem_toArray, List.getElem_cons_zero, List.getElem_cons_succ]); go_big_quiet_on) | (refine Mine.rd_getr _ _ rfl 2 _ rfl rfl _ (by assumption) _ (by first | exact Try.underlying3 | exact Try.underlying22 | exact Try.underlying34) (by rfl) ?_; (try simp only [Act.put, List.setIfInBounds_toArray, List.set_cons_zero, List.set_cons_succ, List.drop_succ_cons, List.drop_zero, List.take_succ_cons, List.take_zero, putAt, ints_set, ints_push, List.getElem_toArray, List.getElem_cons_zero, List.getElem_cons_succ]); go_big_quiet_on) | (unfold Reads; apply Exists.intro; refine ⟨fun wq hq => ?_, ?_⟩; (clear hq; go_simp; first | done | rfl); (try simp only [Act.put, List.setIfInBounds_toArray, List.set_cons_succ, List.set_cons_zero]); go_big_quiet_on))
      refine HQ.takeL (i := 7) rfl (by kernel_rfl) (by kernel_rfl) (by kernel_rfl) (by omega) rfl (fun _ _ _ _ h => h) ?_
      intro K hK
      (first | (refine Mine.rd_get _ _ rfl 1 _ rfl rfl _ rfl _ (by first | exact Try.underlying3 | exact Try.underlying22 | exact Try.underlying34) (by rfl) ?_; (try simp only [Act.put, List.setIfInBounds_toArray, List.set_cons_zero, List.set_cons_succ, List.drop_succ_cons, List.drop_zero, List.take_succ_cons, List.take_zero, putAt, ints_set, ints_push, List.getElem_toArray, List.getElem_cons_zero, List.getElem_cons_succ]); go_big_quiet_on) | (refine Mine.rd_getr _ _ rfl 2 _ rfl rfl _ (by assumption) _ (by first | exact Try.underlying3 | exact Try.underlying22 | exact Try.underlying34) (by rfl) ?_; (try simp only [Act.put, List.setIfInBounds_toArray, List.set_cons_zero, List.set_cons_succ, List.drop_succ_cons, List.drop_zero, List.take_succ_cons, List.take_zero, putAt, ints_set, ints_push, List.getElem_toArray, List.getElem_cons_zero, List.getElem_cons_succ]); go_big_quiet_on) | (unfold Reads; apply Exists.intro; refine ⟨fun wq hq => ?_, ?_⟩; (clear hq; go_simp; first | done | rfl); (try simp only [Act.put, List.setIfInBounds_toArray, List.set_cons_succ, List.set_cons_zero]); go_big_quiet_on))
      refine HQ.noisy (rs := [8]) (by kernel_rfl) (by simp) (AllG.cons rfl (by omega) (fun K hK => ?_) AllG.nil)
      go_simp
      replace M := Lib.hid (M.out.box 3 #[.int .i64 (j : Int)])
      refine hK.out _ _ (M.out.tail.take4) ?_
      clear hK K
      (try simp only [Act.put, List.setIfInBounds_toArray, List.set_cons_succ, List.set_cons_zero])
      refine HQ.noisy (rs := [9]) (by kernel_rfl) (by simp) (AllG.cons rfl (by omega) (fun K hK => ?_) AllG.nil)
      refine Mine.step_pour M.out (by rfl) _ _ _ (by rfl) 3 _ _ _ Try.underlying22 Try.infoInt (by rfl) (by omega) 10 RW.out (by rfl) (fun _ => True) _ 1 1 [.int .i64 (j : Int)] (by rfl) (M.out.box_sl 0 rfl) (by simp [Value.oneCell']) (by omega) (by unfold maxLen; omega) ?_
      intro A2 c2 w' M'
      simp only [List.set_cons_succ, ints_push] at M'
      rw [List.set_append_left _ _ (by rw [qrows_len _ _ hq]; simp)] at M'
      have eQ := qrows_set (qs := qs) (os := (⟨roots ps j⟩ :: List.replicate (k - 1) ⟨[]⟩ : List Order)) (q := 0) (A2, nq + 1, c2) (roots ps j ++ [(j : Int)]) hq
      simp only at eQ
      rw [eQ] at M'
      replace M := Lib.hid M'
      clear M' eQ
      refine hK.out _ _ (M.out.tail.take4) ?_
      clear hK K
      (try simp only [Act.put, List.setIfInBounds_toArray, List.set_cons_succ, List.set_cons_zero])
      refine HQ.end_ (by kernel_rfl) ?_
      simp only [List.drop_succ_cons, List.drop_zero]
      go_wp2_with (first | ((with_reducible show wpList _ _ _ (⟨_, _, _, _, _, none⟩ :: _) _ _); first | (refine Mine.wp_get M.out rfl _ _ rfl 2 _ rfl rfl _ rfl _ (by first | exact Try.underlying3 | exact Try.underlying22 | exact Try.underlying34) (by rfl) ?_; (try simp only [Act.put, List.setIfInBounds_toArray, List.set_cons_zero, List.set_cons_succ, List.drop_succ_cons, List.drop_zero, List.take_succ_cons, List.take_zero, putAt, ints_set, ints_push, List.getElem_toArray, List.getElem_cons_zero, List.getElem_cons_succ])) | (refine Mine.wp_put M.out rfl _ _ _ rfl rfl 3 _ rfl rfl _ (by (conv => lhs; whnf) <;> rfl) (by omega) (by rfl) (by kernel_rfl) ?_; intro w' M'; (try simp only [Act.put, List.setIfInBounds_toArray, List.set_cons_zero, List.set_cons_succ, List.drop_succ_cons, List.drop_zero, List.take_succ_cons, List.take_zero, putAt, ints_set, ints_push, List.getElem_toArray, List.getElem_cons_zero, List.getElem_cons_succ] at M'); replace M := Lib.hid M'; clear M') | (refine Mine.wp_put M.out rfl _ _ _ rfl rfl 7 _ rfl rfl _ (by (conv => lhs; whnf) <;> rfl) (by omega) (by rfl) (by kernel_rfl) ?_; intro w' M'; (try simp only [Act.put, List.setIfInBounds_toArray, List.set_cons_zero, List.set_cons_succ, List.drop_succ_cons, List.drop_zero, List.take_succ_cons, List.take_zero, putAt, ints_set, ints_push, List.getElem_toArray, List.getElem_cons_zero, List.getElem_cons_succ] at M'); replace M := Lib.hid M'; clear M')))
      have M2 := M.out.tail
      have eC := qcells_set qs 0 (A2, nq + 1, c2)
      simp only at eC
      rw [eC] at M2
      go_roundw
      case rel => exact ⟨j + 1, by omega, by go_num, by rw [pinit_hit (by omega) (by rw [EY.out]; exact hy)]; exact ⟨_, (some ⟨gQ2, 0, none⟩, nQ, cQ), (AC, nC, cC), (AS, nS, cS), (AL, nL, cL), (some ⟨gT2, 0, none⟩, nT, cT), (AR, nR, cR), (AE, nE, cE), by simp [hq, pinit], M2⟩⟩
      case measure => simp [intOf]; omega
    obtain rfl : j = np := by omega
    have MP := Lib.hid (show ∃ wq, wq = 0 from ⟨0, rfl⟩)
    clear MP
    go_wp2_with fail
    go_loopw [80] (fun i wr => ∃ u : Nat, u ≤ n ∧ i = .int .i64 u ∧ ∃ (qs : List Hdr) (H0 HC HS HL HT HR HE : Hdr), qs.length = (pplay ps k (pks l) u).queues_.length ∧ Mine w wr (.box gr 36 #[.slice none 0 0, .slice none 0 0, .slice none 0 0, .slice none 0 0, .slice none 0 0, .slice none 0 0, .slice none 0 0] :: .box g8 36 (plc H0 HC HS HL HT HR HE).toArray :: .row 62 1 H0.1 H0.2.1 H0.2.2 (qcells qs) :: .row 3 1 HC.1 HC.2.1 HC.2.2 (ints (pplay ps k (pks l) u).cur_) :: .row 3 1 HS.1 HS.2.1 HS.2.2 (ints (pplay ps k (pks l) u).spawned_) :: .row 3 1 HL.1 HL.2.1 HL.2.2 (ints (pplay ps k (pks l) u).left_) :: .row 3 1 HT.1 HT.2.1 HT.2.2 (ints (pplay ps k (pks l) u).state_) :: .row 3 1 HR.1 HR.2.1 HR.2.2 (ints (pplay ps k (pks l) u).ran_) :: .row 3 1 HE.1 HE.2.1 HE.2.2 (ints (pplay ps k (pks l) u).ended_) :: (qrows qs (pplay ps k (pks l) u).queues_ ++ []))) (fun i _ => n - (intOf i).toNat)
    case atStart => exact ⟨0, Nat.zero_le _, rfl, by have e : pplay ps k (pks l) 0 = pinit ps k ps.length := rfl; rw [e, hnp]; exact ⟨qs, (AQ, nQ, cQ), (AC, nC, cC), (AS, nS, cS), (AL, nL, cL), (AT, nT, cT), (AR, nR, cR), (AE, nE, cE), hq, M.out⟩⟩
    case round =>
      clear M hlQ hlC hlS hlL hlT hlR hlE hq
      obtain ⟨u, hu, rfl, qs, ⟨AQ, nQ, cQ⟩, ⟨AC, nC, cC⟩, ⟨AS, nS, cS⟩, ⟨AL, nL, cL⟩, ⟨AT, nT, cT⟩, ⟨AR, nR, cR⟩, ⟨AE, nE, cE⟩, hq, M1⟩ := hrel
      simp only [plc, Hdr.val] at M1
      have M := Lib.hid M1
      clear M1
      by_cases hlt : (u : Int) < (n : Int)
      rotate_left
      · obtain rfl : u = n := by omega
        go_wp2_with (first | ((with_reducible show wpList _ _ _ (⟨_, _, _, _, _, none⟩ :: _) _ _); first | (refine Mine.wp_gets M.out rfl 36 _ rfl 1 _ 7 rfl rfl (Nat.le_of_ble_eq_true rfl) _ Try.underlying36 (by rfl) (by kernel_rfl) ?_; (try simp only [Act.put, List.setIfInBounds_toArray, List.set_cons_zero, List.set_cons_succ, List.drop_succ_cons, List.drop_zero, List.take_succ_cons, List.take_zero, putAt, ints_set, ints_push, List.getElem_toArray, List.getElem_cons_zero, List.getElem_cons_succ])) | (refine Mine.wp_sets M.out rfl 36 _ _ rfl rfl 0 _ rfl rfl _ rfl (Nat.le_of_ble_eq_true rfl) (by simp [Value.oneCell']) (by kernel_rfl) ?_; intro w' M'; (try simp only [Act.put, List.setIfInBounds_toArray, List.set_cons_zero, List.set_cons_succ, List.drop_succ_cons, List.drop_zero, List.take_succ_cons, List.take_zero, putAt, ints_set, ints_push, List.getElem_toArray, List.getElem_cons_zero, List.getElem_cons_succ] at M'); replace M := Lib.hid M'; clear M')))
        refine bodyPost_ret (M.out.results_cell Try.results25 _ 0 rfl rfl _ Try.underlying36 (by rfl) (by kernel_rfl)) rfl ?_
        refine ⟨_, rfl, ?_⟩
        rw [HP.out, hnl]
        exact ⟨qs, (AQ, nQ, cQ), (AC, nC, cC), (AS, nS, cS), (AL, nL, cL), (AT, nT, cT), (AR, nR, cR), (AE, nE, cE), rfl, hq, M.out.tail.tail⟩
      have HIk := HI.out u (by omega)
      obtain ⟨bA, oA, x, rfl, hbA, hx, hc0, hc1⟩ := pick_at HT.out (k := u) (by omega)
      have HSU := Lib.hid (pplay_succ (ps := ps) (wk := k) (pks_get hx))
      obtain ⟨xw, xv⟩ := x
      simp only at hc0 hc1 HSU
      have X0 := Lib.hid (And.intro hc0 hbA)
      have X1 := Lib.hid (And.intro hc1 hbA)
      clear hx
      have XC := Lib.hid (show ∀ k9 v9, [Value.int .i64 xw, Value.int .i64 xv][k9]? = some v9 → w.cell? ⟨bA, oA + u * 2 + k9, none⟩ = some v9 from fun k9 v9 h9 => by match k9, h9 with | 0, h9 => (injection h9 with h9; subst h9; exact hc0) | 1, h9 => (injection h9 with h9; subst h9; exact hc1) | k9 + 2, h9 => simp at h9)
      have HBA := Lib.hid hbA
      clear hc0 hc1 hbA
      by_cases hx : 0 ≤ xw ∧ xw ≤ (k : Int) - 1
      rotate_left
      · have dv : decide (0 ≤ xw ∧ xw ≤ (k : Int) - 1) = false := decide_eq_false hx
        have e : ppick ps k (pplay ps k (pks l) u) (xw, xv) = pplay ps k (pks l) u := if_neg hx
        have HE := Lib.hid e
        clear e
        go_wp2_with (first | (go_at_call 37; refine (within_any _ _ _ _).mono ?_; rintro e w2 ⟨rfl, rfl⟩) | ((with_reducible show wpList _ _ _ (⟨_, _, _, _, _, none⟩ :: _) _ _); first | (refine Mine.wp_args M.out rfl 64 _ rfl bA _ [.int .i64 xw, .int .i64 xv] HBA.out rfl XC.out _ Try.underlying64 (by rfl) (by kernel_rfl) ?_; (try simp only [Act.put, List.setIfInBounds_toArray, List.set_cons_zero, List.set_cons_succ, List.drop_succ_cons, List.drop_zero, List.take_succ_cons, List.take_zero, putAt, ints_set, ints_push, List.getElem_toArray, List.getElem_cons_zero, List.getElem_cons_succ])) | (refine Mine.wp_alloc M.out rfl 64 rfl (.agg #[.int .i64 0, .int .i64 0]) (by kernel_rfl) ?_; intro gx w' M'; (try simp only [Value.cells, Act.put, List.setIfInBounds_toArray, List.set_cons_zero, List.set_cons_succ, List.drop_succ_cons, List.drop_zero, List.take_succ_cons, List.take_zero, putAt, ints_set, ints_push, List.getElem_toArray, List.getElem_cons_zero, List.getElem_cons_succ] at M'); replace M := Lib.hid M'; clear M'; (try simp only [Act.put, List.setIfInBounds_toArray, List.set_cons_zero, List.set_cons_succ, List.drop_succ_cons, List.drop_zero, List.take_succ_cons, List.take_zero, putAt, ints_set, ints_push, List.getElem_toArray, List.getElem_cons_zero, List.getElem_cons_succ])) | (refine Mine.wp_sets M.out rfl 64 _ _ rfl rfl 0 _ rfl rfl _ rfl (Nat.le_of_ble_eq_true rfl) (by simp [Value.oneCell']) (by kernel_rfl) ?_; intro w' M'; (try simp only [Act.put, List.setIfInBounds_toArray, List.set_cons_zero, List.set_cons_succ, List.drop_succ_cons, List.drop_zero, List.take_succ_cons, List.take_zero, putAt, ints_set, ints_push, List.getElem_toArray, List.getElem_cons_zero, List.getElem_cons_succ] at M'); replace M := Lib.hid M'; clear M') | (refine Mine.wp_get M.out rfl _ _ rfl 0 _ rfl rfl _ rfl _ (by first | exact Try.underlying3 | exact Try.underlying22 | exact Try.underlying34) (by rfl) ?_; (try simp only [Act.put, List.setIfInBounds_toArray, List.set_cons_zero, List.set_cons_succ, List.drop_succ_cons, List.drop_zero, List.take_succ_cons, List.take_zero, putAt, ints_set, ints_push, List.getElem_toArray, List.getElem_cons_zero, List.getElem_cons_succ]))))
        go_roundw
        case rel => exact ⟨u + 1, by omega, by go_num, by rw [HSU.out, HE.out]; exact ⟨qs, (AQ, nQ, cQ), (AC, nC, cC), (AS, nS, cS), (AL, nL, cL), (AT, nT, cT), (AR, nR, cR), (AE, nE, cE), hq, M.out.tail⟩⟩
        case measure => simp [intOf]; omega
      have dv : decide (0 ≤ xw ∧ xw ≤ (k : Int) - 1) = true := decide_eq_true hx
      have e : ppick ps k (pplay ps k (pks l) u) (xw, xv) = pstep ps (pplay ps k (pks l) u) xw.toNat xv := if_pos hx
      obtain ⟨W, rfl⟩ : ∃ W : Nat, xw = (W : Int) := ⟨xw.toNat, by omega⟩
      rw [Int.toNat_natCast] at e
      have HE := Lib.hid e
      have hW : W < k := by omega
      clear e
      have HIN := Lib.hid HIk
      clear HIk
      generalize hpp : pplay ps k (pks l) u = pp at M hq HE HIN HSU
      clear hpp
      go_wp2_with (first | (go_at_call 46; have M5 := M.out.down2 (_ :: _ :: _ :: _ :: _ :: _ :: _ :: _ :: qrows qs pp.queues_); refine (impl_step ps h1 Ap j cp S w HS.out k hK4 pp HIN.out W hW xv _ g8 _ ⟨qs, (AQ, nQ, cQ), (AC, nC, cC), (AS, nS, cS), (AL, nL, cL), (AT, nT, cT), (AR, nR, cR), (AE, nE, cE), hq, M5⟩ _ rfl).mono ?_; rintro e w4 ⟨rfl, ⟨qs4, ⟨A0, n0, k0⟩, ⟨A1, n1, k1⟩, ⟨A2, n2, k2⟩, ⟨A3, n3, k3⟩, ⟨A4, n4, k4⟩, ⟨A5, n5, k5⟩, ⟨A6, n6, k6⟩, hq4, M7⟩⟩; simp only [plc, Hdr.val] at M7; have M8 := Mine.up2 (_ :: _ :: _ :: _ :: _ :: _ :: _ :: _ :: qrows qs4 _) M7; replace M := Lib.hid M8; clear M5 M7 M8) | (go_at_call 37; refine (within_any _ _ _ _).mono ?_; rintro e w2 ⟨rfl, rfl⟩) | ((with_reducible show wpList _ _ _ (⟨_, _, _, _, _, none⟩ :: _) _ _); first | (refine Mine.wp_args M.out rfl 64 _ rfl bA _ [.int .i64 (W : Int), .int .i64 xv] HBA.out rfl XC.out _ Try.underlying64 (by rfl) (by kernel_rfl) ?_; (try simp only [Act.put, List.setIfInBounds_toArray, List.set_cons_zero, List.set_cons_succ, List.drop_succ_cons, List.drop_zero, List.take_succ_cons, List.take_zero, putAt, ints_set, ints_push, List.getElem_toArray, List.getElem_cons_zero, List.getElem_cons_succ])) | (refine Mine.wp_alloc M.out rfl 64 rfl (.agg #[.int .i64 0, .int .i64 0]) (by kernel_rfl) ?_; intro gx w' M'; (try simp only [Value.cells, Act.put, List.setIfInBounds_toArray, List.set_cons_zero, List.set_cons_succ, List.drop_succ_cons, List.drop_zero, List.take_succ_cons, List.take_zero, putAt, ints_set, ints_push, List.getElem_toArray, List.getElem_cons_zero, List.getElem_cons_succ] at M'); replace M := Lib.hid M'; clear M'; (try simp only [Act.put, List.setIfInBounds_toArray, List.set_cons_zero, List.set_cons_succ, List.drop_succ_cons, List.drop_zero, List.take_succ_cons, List.take_zero, putAt, ints_set, ints_push, List.getElem_toArray, List.getElem_cons_zero, List.getElem_cons_succ])) | (refine Mine.wp_sets M.out rfl 64 _ _ rfl rfl 0 _ rfl rfl _ rfl (Nat.le_of_ble_eq_true rfl) (by simp [Value.oneCell']) (by kernel_rfl) ?_; intro w' M'; (try simp only [Act.put, List.setIfInBounds_toArray, List.set_cons_zero, List.set_cons_succ, List.drop_succ_cons, List.drop_zero, List.take_succ_cons, List.take_zero, putAt, ints_set, ints_push, List.getElem_toArray, List.getElem_cons_zero, List.getElem_cons_succ] at M'); replace M := Lib.hid M'; clear M') | (refine Mine.wp_get M.out rfl _ _ rfl 0 _ rfl rfl _ rfl _ (by first | exact Try.underlying3 | exact Try.underlying22 | exact Try.underlying34) (by rfl) ?_; (try simp only [Act.put, List.setIfInBounds_toArray, List.set_cons_zero, List.set_cons_succ, List.drop_succ_cons, List.drop_zero, List.take_succ_cons, List.take_zero, putAt, ints_set, ints_push, List.getElem_toArray, List.getElem_cons_zero, List.getElem_cons_succ])) | (refine Mine.wp_gets M.out rfl 64 _ rfl 0 _ 2 rfl rfl (Nat.le_of_ble_eq_true rfl) _ Try.underlying64 (by rfl) (by kernel_rfl) ?_; (try simp only [Act.put, List.setIfInBounds_toArray, List.set_cons_zero, List.set_cons_succ, List.drop_succ_cons, List.drop_zero, List.take_succ_cons, List.take_zero, putAt, ints_set, ints_push, List.getElem_toArray, List.getElem_cons_zero, List.getElem_cons_succ]))))
      go_roundw
      case rel => exact ⟨u + 1, by omega, by go_num, by rw [HSU.out, HE.out]; exact ⟨qs4, (A0, n0, k0), (A1, n1, k1), (A2, n2, k2), (A3, n3, k3), (A4, n4, k4), (A5, n5, k5), (A6, n6, k6), hq4, M.out.tail⟩⟩
      case measure => simp [intOf]; omega
end Go.Proofs.Ytfkbomcbcjjlbaa
