/- The steps of the program's deque. No condition. -/
import Derived.Test.YtkkcgpoakhllkaaDqW
namespace Go.Proofs.Ytkkcgpoakhllkaa
open Go.RowKit Go.Deep
set_option linter.unusedSimpArgs false
set_option linter.unusedVariables false

set_option maxRecDepth 4000 in
set_option maxHeartbeats 4000000 in
theorem impl_take (top bottom next ph ob ot : Int) (items : List Int) (XT : List Value) (took : List Taken) (who item : Int) (hk : took.length ≤ 300) (b w : World) (g : Nat) (fr : List Res) (AI : Option Addr) (nI cI : Nat) (AT : Option Addr) (nT cT : Nat) (AK : Option Addr) (nK cK : Nat) (M1 : Mine b w (.box g 42 [.int .i64 top, .int .i64 bottom, .int .i64 next, .slice AI nI cI, .int .i64 ph, .int .i64 ob, .int .i64 ot, .slice AT nT cT, .slice AK nK cK].toArray :: .row 3 1 AI nI cI (ints items) :: .row 67 4 AT nT cT XT :: .row 57 2 AK nK cK (took.flatMap Taken.cells) :: fr)) :
    Calls Try.prog 64 #[.pointer (some ⟨g, 0, none⟩), .int .i64 who, .int .i64 item] w fun e w' => e = .returned (.tuple #[]) ∧ ∃ A2 c2, Mine b w' (.box g 42 [.int .i64 top, .int .i64 bottom, .int .i64 next, .slice AI nI cI, .int .i64 ph, .int .i64 ob, .int .i64 ot, .slice AT nT cT, .slice A2 (nK + 1) c2].toArray :: .row 3 1 AI nI cI (ints items) :: .row 67 4 AT nT cT XT :: .row 57 2 A2 (nK + 1) c2 ((took ++ [(⟨who, item⟩ : Taken)]).flatMap Taken.cells) :: fr) := by
  have hlK := M1.len 3 rfl
  rw [flat_length Taken.cells_length] at hlK
  have M := Lib.hid M1
  clear M1
  go_enter Try.func64, Try.ntmps64
  go_wp2_with (first | (refine Mine.wp_get M.out rfl _ _ rfl 0 _ rfl rfl _ rfl _ (by first | exact Try.underlying3 | exact Try.underlying29 | exact Try.underlying39 | exact Try.underlying40) (by rfl) ?_; (try simp only [Act.put, List.setIfInBounds_toArray, List.set_cons_zero, List.set_cons_succ, List.drop_succ_cons, List.drop_zero, List.take_succ_cons, List.take_zero, putAt, ints_set, ints_push])) | (refine Mine.wp_set M.out rfl _ _ _ rfl rfl 0 _ rfl rfl _ (by (conv => lhs; whnf) <;> rfl) (Nat.le_of_ble_eq_true rfl) (by rfl) (by kernel_rfl) ?_; intro w' M'; (try simp only [Act.put, List.setIfInBounds_toArray, List.set_cons_zero, List.set_cons_succ, List.drop_succ_cons, List.drop_zero, List.take_succ_cons, List.take_zero, putAt, ints_set, ints_push] at M'); replace M := Lib.hid M'; clear M') | (at_builtin; refine Mine.wp_push M.out rfl _ _ 40 rfl 57 _ _ _ Try.underlying40 Try.infoTaken rfl (by omega) 3 rfl rfl _ _ rfl rfl rfl (by simp [Value.oneCell']) (by omega) (by unfold maxLen; omega) ?_; intro A2 c2 w' M'; (try simp only [Act.put, List.setIfInBounds_toArray, List.set_cons_zero, List.set_cons_succ, List.drop_succ_cons, List.drop_zero, List.take_succ_cons, List.take_zero, putAt, ints_set, ints_push] at M'); replace M := Lib.hid M'; clear M'))
  first | refine bodyPost_ret (v := .tuple #[]) (by simp [results, Try.results64, go_sem]) rfl ?_ | refine bodyPost_end (v := .tuple #[]) (by simp [results, Try.results64, go_sem]) rfl ?_
  rw [taken_push] at M
  exact ⟨rfl, _, _, M.out⟩
set_option maxRecDepth 4000 in
set_option maxHeartbeats 8000000 in
theorem impl_push (d : Dq) (n N : Nat) (hI : d.Inv n N) (hN : N ≤ 300) (hp : d.own.phase = 1 ∨ d.own.phase = 0) (b w : World) (g : Nat) (fr : List Res) (M0 : DqM b w g d fr) (d' : Dq) (hd' : d' = if d.own.phase = 0 ∧ 40 ≤ d.bottom then d else dpush d) :
    Calls Try.prog 51 #[.pointer (some ⟨g, 0, none⟩)] w fun e w' => e = .returned (.tuple #[]) ∧ DqM b w' g d' fr := by
  obtain ⟨AI, nI, cI, AT, nT, cT, AK, nK, cK, M1⟩ := M0
  have hlI := M1.len1 1 rfl
  have hlT := M1.len 2 rfl
  have hlK := M1.len 3 rfl
  rw [ints_length] at hlI
  rw [flat_length Thief.cells_length] at hlT
  rw [flat_length Taken.cells_length] at hlK
  have M := Lib.hid M1
  clear M1
  have HD := Lib.hid hd'
  clear hd'
  have hB := hI.bounds
  have hn := hI.next
  have hv := hI.vb
  have ht := hI.top
  clear hI
  obtain ⟨top, bottom, next, items, ⟨ph, ob, ot⟩, th, took⟩ := d
  simp only [dqc] at M hp hB hn hlI hlT hlK
  simp only at HD
  simp only at hv ht
  rcases hp with hp | hp
  · subst hp
    have e : dpush ⟨top, bottom, next, items, ⟨1, ob, ot⟩, th, took⟩ = ⟨top, bottom + 1, next, items, ⟨0, 0, 0⟩, th, took⟩ := if_pos rfl
    clear hv ht
    go_enter Try.func51, Try.ntmps51
    go_wp2_with (first | (refine Mine.wp_get M.out rfl _ _ rfl 0 _ rfl rfl _ rfl _ (by first | exact Try.underlying3 | exact Try.underlying29 | exact Try.underlying39 | exact Try.underlying40) (by rfl) ?_; (try simp only [Act.put, List.setIfInBounds_toArray, List.set_cons_zero, List.set_cons_succ, List.drop_succ_cons, List.drop_zero, List.take_succ_cons, List.take_zero, putAt, ints_set, ints_push])) | (refine Mine.wp_set M.out rfl _ _ _ rfl rfl 0 _ rfl rfl _ (by (conv => lhs; whnf) <;> rfl) (Nat.le_of_ble_eq_true rfl) (by rfl) (by kernel_rfl) ?_; intro w' M'; (try simp only [Act.put, List.setIfInBounds_toArray, List.set_cons_zero, List.set_cons_succ, List.drop_succ_cons, List.drop_zero, List.take_succ_cons, List.take_zero, putAt, ints_set, ints_push] at M'); replace M := Lib.hid M'; clear M') | (refine Mine.wp_gets M.out rfl 38 _ rfl 0 _ 3 rfl rfl (Nat.le_of_ble_eq_true rfl) _ Try.underlying38 (by rfl) (by kernel_rfl) ?_; (try simp only [Act.put, List.setIfInBounds_toArray, List.set_cons_zero, List.set_cons_succ, List.drop_succ_cons, List.drop_zero, List.take_succ_cons, List.take_zero, putAt, ints_set, ints_push])) | (refine Mine.wp_sets M.out rfl 38 _ _ rfl rfl 0 _ rfl rfl _ rfl (Nat.le_of_ble_eq_true rfl) (by simp [Value.oneCell']) (by kernel_rfl) ?_; intro w' M'; (try simp only [Act.put, List.setIfInBounds_toArray, List.set_cons_zero, List.set_cons_succ, List.drop_succ_cons, List.drop_zero, List.take_succ_cons, List.take_zero, putAt, ints_set, ints_push] at M'); replace M := Lib.hid M'; clear M') | (at_builtin; refine Mine.wp_push M.out rfl _ _ 29 rfl 3 _ _ _ Try.underlying29 Try.infoInt rfl (by omega) 1 rfl rfl _ _ rfl rfl rfl (by simp [Value.oneCell']) (by omega) (by unfold maxLen; omega) ?_; intro A2 c2 w' M'; (try simp only [Act.put, List.setIfInBounds_toArray, List.set_cons_zero, List.set_cons_succ, List.drop_succ_cons, List.drop_zero, List.take_succ_cons, List.take_zero, putAt, ints_set, ints_push] at M'); replace M := Lib.hid M'; clear M'))
    first | refine bodyPost_ret (v := .tuple #[]) (by simp [results, Try.results51, go_sem]) rfl ?_ | refine bodyPost_end (v := .tuple #[]) (by simp [results, Try.results51, go_sem]) rfl ?_
    refine ⟨rfl, ?_⟩
    rw [HD.out, if_neg (by simp), e]
    exact ⟨_, _, _, _, _, _, _, _, _, M.out⟩
  subst hp
  simp only [Dq.vb] at hv ht
  simp at hv ht
  by_cases h40 : 40 ≤ bottom
  · skip
    go_enter Try.func51, Try.ntmps51
    go_wp2_with (first | (refine Mine.wp_get M.out rfl _ _ rfl 0 _ rfl rfl _ rfl _ (by first | exact Try.underlying3 | exact Try.underlying29 | exact Try.underlying39 | exact Try.underlying40) (by rfl) ?_; (try simp only [Act.put, List.setIfInBounds_toArray, List.set_cons_zero, List.set_cons_succ, List.drop_succ_cons, List.drop_zero, List.take_succ_cons, List.take_zero, putAt, ints_set, ints_push])) | (refine Mine.wp_set M.out rfl _ _ _ rfl rfl 0 _ rfl rfl _ (by (conv => lhs; whnf) <;> rfl) (Nat.le_of_ble_eq_true rfl) (by rfl) (by kernel_rfl) ?_; intro w' M'; (try simp only [Act.put, List.setIfInBounds_toArray, List.set_cons_zero, List.set_cons_succ, List.drop_succ_cons, List.drop_zero, List.take_succ_cons, List.take_zero, putAt, ints_set, ints_push] at M'); replace M := Lib.hid M'; clear M') | (refine Mine.wp_gets M.out rfl 38 _ rfl 0 _ 3 rfl rfl (Nat.le_of_ble_eq_true rfl) _ Try.underlying38 (by rfl) (by kernel_rfl) ?_; (try simp only [Act.put, List.setIfInBounds_toArray, List.set_cons_zero, List.set_cons_succ, List.drop_succ_cons, List.drop_zero, List.take_succ_cons, List.take_zero, putAt, ints_set, ints_push])) | (refine Mine.wp_sets M.out rfl 38 _ _ rfl rfl 0 _ rfl rfl _ rfl (Nat.le_of_ble_eq_true rfl) (by simp [Value.oneCell']) (by kernel_rfl) ?_; intro w' M'; (try simp only [Act.put, List.setIfInBounds_toArray, List.set_cons_zero, List.set_cons_succ, List.drop_succ_cons, List.drop_zero, List.take_succ_cons, List.take_zero, putAt, ints_set, ints_push] at M'); replace M := Lib.hid M'; clear M') | (at_builtin; refine Mine.wp_push M.out rfl _ _ 29 rfl 3 _ _ _ Try.underlying29 Try.infoInt rfl (by omega) 1 rfl rfl _ _ rfl rfl rfl (by simp [Value.oneCell']) (by omega) (by unfold maxLen; omega) ?_; intro A2 c2 w' M'; (try simp only [Act.put, List.setIfInBounds_toArray, List.set_cons_zero, List.set_cons_succ, List.drop_succ_cons, List.drop_zero, List.take_succ_cons, List.take_zero, putAt, ints_set, ints_push] at M'); replace M := Lib.hid M'; clear M'))
    first | refine bodyPost_ret (v := .tuple #[]) (by simp [results, Try.results51, go_sem]) rfl ?_ | refine bodyPost_end (v := .tuple #[]) (by simp [results, Try.results51, go_sem]) rfl ?_
    refine ⟨rfl, ?_⟩
    rw [HD.out, if_pos (by simpa using h40)]
    exact ⟨_, _, _, _, _, _, _, _, _, M.out⟩
  obtain ⟨B, rfl⟩ : ∃ B : Nat, bottom = (B : Int) := ⟨bottom.toNat, by omega⟩
  have e : dpush ⟨top, B, next, items, ⟨0, ob, ot⟩, th, took⟩ = ⟨top, B, next + 1, if (B : Int) = items.length then items ++ [next] else items.set B next, ⟨1, 0, 0⟩, th, took⟩ := if_neg (by simp)
  by_cases hBl : (B : Int) = (nI : Int)
  · have hBn : B = nI := by omega
    subst hBn
    have hb : ((B : Int) == (B : Int)) = true := by simp
    go_enter Try.func51, Try.ntmps51
    go_wp2_with (first | (refine Mine.wp_get M.out rfl _ _ rfl 0 _ rfl rfl _ rfl _ (by first | exact Try.underlying3 | exact Try.underlying29 | exact Try.underlying39 | exact Try.underlying40) (by rfl) ?_; (try simp only [Act.put, List.setIfInBounds_toArray, List.set_cons_zero, List.set_cons_succ, List.drop_succ_cons, List.drop_zero, List.take_succ_cons, List.take_zero, putAt, ints_set, ints_push])) | (refine Mine.wp_set M.out rfl _ _ _ rfl rfl 0 _ rfl rfl _ (by (conv => lhs; whnf) <;> rfl) (Nat.le_of_ble_eq_true rfl) (by rfl) (by kernel_rfl) ?_; intro w' M'; (try simp only [Act.put, List.setIfInBounds_toArray, List.set_cons_zero, List.set_cons_succ, List.drop_succ_cons, List.drop_zero, List.take_succ_cons, List.take_zero, putAt, ints_set, ints_push] at M'); replace M := Lib.hid M'; clear M') | (refine Mine.wp_gets M.out rfl 38 _ rfl 0 _ 3 rfl rfl (Nat.le_of_ble_eq_true rfl) _ Try.underlying38 (by rfl) (by kernel_rfl) ?_; (try simp only [Act.put, List.setIfInBounds_toArray, List.set_cons_zero, List.set_cons_succ, List.drop_succ_cons, List.drop_zero, List.take_succ_cons, List.take_zero, putAt, ints_set, ints_push])) | (refine Mine.wp_sets M.out rfl 38 _ _ rfl rfl 0 _ rfl rfl _ rfl (Nat.le_of_ble_eq_true rfl) (by simp [Value.oneCell']) (by kernel_rfl) ?_; intro w' M'; (try simp only [Act.put, List.setIfInBounds_toArray, List.set_cons_zero, List.set_cons_succ, List.drop_succ_cons, List.drop_zero, List.take_succ_cons, List.take_zero, putAt, ints_set, ints_push] at M'); replace M := Lib.hid M'; clear M') | (at_builtin; refine Mine.wp_push M.out rfl _ _ 29 rfl 3 _ _ _ Try.underlying29 Try.infoInt rfl (by omega) 1 rfl rfl _ _ rfl rfl rfl (by simp [Value.oneCell']) (by omega) (by unfold maxLen; omega) ?_; intro A2 c2 w' M'; (try simp only [Act.put, List.setIfInBounds_toArray, List.set_cons_zero, List.set_cons_succ, List.drop_succ_cons, List.drop_zero, List.take_succ_cons, List.take_zero, putAt, ints_set, ints_push] at M'); replace M := Lib.hid M'; clear M'))
    have m1 := (M.out.box_at 0 rfl).cell 1
    simp only [List.getElem?_toArray, List.getElem?_cons_zero, List.getElem?_cons_succ] at m1
    have m2 := (M.out.box_at 0 rfl).cell 2
    simp only [List.getElem?_toArray, List.getElem?_cons_zero, List.getElem?_cons_succ] at m2
    have m3 := (M.out.box_at 0 rfl).cell 3
    simp only [List.getElem?_toArray, List.getElem?_cons_zero, List.getElem?_cons_succ] at m3
    go_quiet (fail)
    clear m1 m2 m3
    generalize hq : World.drewN _ _ = wq
    replace M := Lib.hid (Mine.of_drN M.out hq)
    clear hq
    go_wp2
    have m2 := (M.out.box_at 0 rfl).cell 2
    simp only [List.getElem?_toArray, List.getElem?_cons_zero, List.getElem?_cons_succ] at m2
    have m3 := (M.out.box_at 0 rfl).cell 3
    simp only [List.getElem?_toArray, List.getElem?_cons_zero, List.getElem?_cons_succ] at m3
    have hgl := (M.out.box_at 0 rfl).lt
    go_region_law (refine Mine.step_push (Mine.dr M.out) (by rfl) _ _ _ (by rfl) _ _ _ _ Try.underlying29 Try.infoInt (by rfl) (by omega) 1 (by rfl) (by rfl) _ _ (by rfl) (by rfl) (by rfl) (by simp [Value.oneCell']) (by omega) (by unfold maxLen; omega) ?_; intro A2 c2 w' M'; (try simp only [Act.put, List.setIfInBounds_toArray, List.set_cons_zero, List.set_cons_succ, List.drop_succ_cons, List.drop_zero, List.take_succ_cons, List.take_zero, putAt, ints_set, ints_push] at M'); replace M := Lib.hid M'; clear M'; have c3 := (M.out.box_at 0 rfl).cell 3; simp only [List.getElem?_toArray, List.getElem?_cons_zero, List.getElem?_cons_succ] at c3; have f3 := (M.out.box_at 0 rfl).frozen 3)
    all_goals (
      clear m2 m3 c3 f3 hgl
      replace M := Lib.hid (M.out.set 0 rfl 3 (.slice A2 (B + 1) c2))
      simp only [Act.put, List.setIfInBounds_toArray, List.set_cons_zero, List.set_cons_succ, List.drop_succ_cons, List.drop_zero, List.take_succ_cons, List.take_zero, putAt, ints_set, ints_push] at M
      go_wp2_with (first | (refine Mine.wp_get M.out rfl _ _ rfl 0 _ rfl rfl _ rfl _ (by first | exact Try.underlying3 | exact Try.underlying29 | exact Try.underlying39 | exact Try.underlying40) (by rfl) ?_; (try simp only [Act.put, List.setIfInBounds_toArray, List.set_cons_zero, List.set_cons_succ, List.drop_succ_cons, List.drop_zero, List.take_succ_cons, List.take_zero, putAt, ints_set, ints_push])) | (refine Mine.wp_set M.out rfl _ _ _ rfl rfl 0 _ rfl rfl _ (by (conv => lhs; whnf) <;> rfl) (Nat.le_of_ble_eq_true rfl) (by rfl) (by kernel_rfl) ?_; intro w' M'; (try simp only [Act.put, List.setIfInBounds_toArray, List.set_cons_zero, List.set_cons_succ, List.drop_succ_cons, List.drop_zero, List.take_succ_cons, List.take_zero, putAt, ints_set, ints_push] at M'); replace M := Lib.hid M'; clear M') | (refine Mine.wp_gets M.out rfl 38 _ rfl 0 _ 3 rfl rfl (Nat.le_of_ble_eq_true rfl) _ Try.underlying38 (by rfl) (by kernel_rfl) ?_; (try simp only [Act.put, List.setIfInBounds_toArray, List.set_cons_zero, List.set_cons_succ, List.drop_succ_cons, List.drop_zero, List.take_succ_cons, List.take_zero, putAt, ints_set, ints_push])) | (refine Mine.wp_sets M.out rfl 38 _ _ rfl rfl 0 _ rfl rfl _ rfl (Nat.le_of_ble_eq_true rfl) (by simp [Value.oneCell']) (by kernel_rfl) ?_; intro w' M'; (try simp only [Act.put, List.setIfInBounds_toArray, List.set_cons_zero, List.set_cons_succ, List.drop_succ_cons, List.drop_zero, List.take_succ_cons, List.take_zero, putAt, ints_set, ints_push] at M'); replace M := Lib.hid M'; clear M') | (at_builtin; refine Mine.wp_push M.out rfl _ _ 29 rfl 3 _ _ _ Try.underlying29 Try.infoInt rfl (by omega) 1 rfl rfl _ _ rfl rfl rfl (by simp [Value.oneCell']) (by omega) (by unfold maxLen; omega) ?_; intro A2 c2 w' M'; (try simp only [Act.put, List.setIfInBounds_toArray, List.set_cons_zero, List.set_cons_succ, List.drop_succ_cons, List.drop_zero, List.take_succ_cons, List.take_zero, putAt, ints_set, ints_push] at M'); replace M := Lib.hid M'; clear M'))
      first | refine bodyPost_ret (v := .tuple #[]) (by simp [results, Try.results51, go_sem]) rfl ?_ | refine bodyPost_end (v := .tuple #[]) (by simp [results, Try.results51, go_sem]) rfl ?_
      refine ⟨rfl, ?_⟩
      rw [HD.out, if_neg (by simp; omega), e, if_pos (by first | omega | (dsimp only; omega))]
      exact ⟨_, _, _, _, _, _, _, _, _, M.out⟩)
  have hBn : B < nI := by omega
  obtain ⟨gI, rfl⟩ := M.out.addr 1 rfl (by omega)
  have hb : ((B : Int) == (nI : Int)) = false := by simp; omega
  have hne : gI ≠ g := fun q => M.out.far_of (i := 0) (j := 1) rfl rfl (by omega) g rfl (by rw [← q]; rfl)
  go_enter Try.func51, Try.ntmps51
  go_wp2_with (first | (refine Mine.wp_get M.out rfl _ _ rfl 0 _ rfl rfl _ rfl _ (by first | exact Try.underlying3 | exact Try.underlying29 | exact Try.underlying39 | exact Try.underlying40) (by rfl) ?_; (try simp only [Act.put, List.setIfInBounds_toArray, List.set_cons_zero, List.set_cons_succ, List.drop_succ_cons, List.drop_zero, List.take_succ_cons, List.take_zero, putAt, ints_set, ints_push])) | (refine Mine.wp_set M.out rfl _ _ _ rfl rfl 0 _ rfl rfl _ (by (conv => lhs; whnf) <;> rfl) (Nat.le_of_ble_eq_true rfl) (by rfl) (by kernel_rfl) ?_; intro w' M'; (try simp only [Act.put, List.setIfInBounds_toArray, List.set_cons_zero, List.set_cons_succ, List.drop_succ_cons, List.drop_zero, List.take_succ_cons, List.take_zero, putAt, ints_set, ints_push] at M'); replace M := Lib.hid M'; clear M') | (refine Mine.wp_gets M.out rfl 38 _ rfl 0 _ 3 rfl rfl (Nat.le_of_ble_eq_true rfl) _ Try.underlying38 (by rfl) (by kernel_rfl) ?_; (try simp only [Act.put, List.setIfInBounds_toArray, List.set_cons_zero, List.set_cons_succ, List.drop_succ_cons, List.drop_zero, List.take_succ_cons, List.take_zero, putAt, ints_set, ints_push])) | (refine Mine.wp_sets M.out rfl 38 _ _ rfl rfl 0 _ rfl rfl _ rfl (Nat.le_of_ble_eq_true rfl) (by simp [Value.oneCell']) (by kernel_rfl) ?_; intro w' M'; (try simp only [Act.put, List.setIfInBounds_toArray, List.set_cons_zero, List.set_cons_succ, List.drop_succ_cons, List.drop_zero, List.take_succ_cons, List.take_zero, putAt, ints_set, ints_push] at M'); replace M := Lib.hid M'; clear M') | (at_builtin; refine Mine.wp_push M.out rfl _ _ 29 rfl 3 _ _ _ Try.underlying29 Try.infoInt rfl (by omega) 1 rfl rfl _ _ rfl rfl rfl (by simp [Value.oneCell']) (by omega) (by unfold maxLen; omega) ?_; intro A2 c2 w' M'; (try simp only [Act.put, List.setIfInBounds_toArray, List.set_cons_zero, List.set_cons_succ, List.drop_succ_cons, List.drop_zero, List.take_succ_cons, List.take_zero, putAt, ints_set, ints_push] at M'); replace M := Lib.hid M'; clear M'))
  have m1 := (M.out.box_at 0 rfl).cell 1
  simp only [List.getElem?_toArray, List.getElem?_cons_zero, List.getElem?_cons_succ] at m1
  have m2 := (M.out.box_at 0 rfl).cell 2
  simp only [List.getElem?_toArray, List.getElem?_cons_zero, List.getElem?_cons_succ] at m2
  have m3 := (M.out.box_at 0 rfl).cell 3
  simp only [List.getElem?_toArray, List.getElem?_cons_zero, List.getElem?_cons_succ] at m3
  go_quiet (fail)
  clear m1 m2 m3
  generalize hq : World.drewN _ _ = wq
  replace M := Lib.hid (Mine.of_drN M.out hq)
  clear hq
  go_wp2
  have m1 := (M.out.box_at 0 rfl).cell 1
  simp only [List.getElem?_toArray, List.getElem?_cons_zero, List.getElem?_cons_succ] at m1
  have m2 := (M.out.box_at 0 rfl).cell 2
  simp only [List.getElem?_toArray, List.getElem?_cons_zero, List.getElem?_cons_succ] at m2
  have m3 := (M.out.box_at 0 rfl).cell 3
  simp only [List.getElem?_toArray, List.getElem?_cons_zero, List.getElem?_cons_succ] at m3
  obtain ⟨v0, i0⟩ := Option.isSome_iff_exists.1 (there_row (M.out.row_at 1 rfl) (p := B) (m := 1) (by omega) 0 (by omega)).1
  have f0 := (M.out.row_at 1 rfl).frozenAt B
  simp only [Nat.add_zero] at i0
  go_region_held3 (fun w' => w'.cell? ⟨g, 3, none⟩ = some (.slice (some ⟨gI, 0, none⟩) nI cI) ∧ w'.cell? ⟨g, 1, none⟩ = some (.int .i64 (B : Int)) ∧ w'.cell? ⟨g, 2, none⟩ = some (.int .i64 next)) (go_keep) (fail)
  clear m1 m2 m3 i0 f0
  replace M := Lib.hid (M.out.dr.put 1 rfl B (.int .i64 next))
  simp only [Act.put, List.setIfInBounds_toArray, List.set_cons_zero, List.set_cons_succ, List.drop_succ_cons, List.drop_zero, List.take_succ_cons, List.take_zero, putAt, ints_set, ints_push] at M
  go_wp2_with (first | (refine Mine.wp_get M.out rfl _ _ rfl 0 _ rfl rfl _ rfl _ (by first | exact Try.underlying3 | exact Try.underlying29 | exact Try.underlying39 | exact Try.underlying40) (by rfl) ?_; (try simp only [Act.put, List.setIfInBounds_toArray, List.set_cons_zero, List.set_cons_succ, List.drop_succ_cons, List.drop_zero, List.take_succ_cons, List.take_zero, putAt, ints_set, ints_push])) | (refine Mine.wp_set M.out rfl _ _ _ rfl rfl 0 _ rfl rfl _ (by (conv => lhs; whnf) <;> rfl) (Nat.le_of_ble_eq_true rfl) (by rfl) (by kernel_rfl) ?_; intro w' M'; (try simp only [Act.put, List.setIfInBounds_toArray, List.set_cons_zero, List.set_cons_succ, List.drop_succ_cons, List.drop_zero, List.take_succ_cons, List.take_zero, putAt, ints_set, ints_push] at M'); replace M := Lib.hid M'; clear M') | (refine Mine.wp_gets M.out rfl 38 _ rfl 0 _ 3 rfl rfl (Nat.le_of_ble_eq_true rfl) _ Try.underlying38 (by rfl) (by kernel_rfl) ?_; (try simp only [Act.put, List.setIfInBounds_toArray, List.set_cons_zero, List.set_cons_succ, List.drop_succ_cons, List.drop_zero, List.take_succ_cons, List.take_zero, putAt, ints_set, ints_push])) | (refine Mine.wp_sets M.out rfl 38 _ _ rfl rfl 0 _ rfl rfl _ rfl (Nat.le_of_ble_eq_true rfl) (by simp [Value.oneCell']) (by kernel_rfl) ?_; intro w' M'; (try simp only [Act.put, List.setIfInBounds_toArray, List.set_cons_zero, List.set_cons_succ, List.drop_succ_cons, List.drop_zero, List.take_succ_cons, List.take_zero, putAt, ints_set, ints_push] at M'); replace M := Lib.hid M'; clear M') | (at_builtin; refine Mine.wp_push M.out rfl _ _ 29 rfl 3 _ _ _ Try.underlying29 Try.infoInt rfl (by omega) 1 rfl rfl _ _ rfl rfl rfl (by simp [Value.oneCell']) (by omega) (by unfold maxLen; omega) ?_; intro A2 c2 w' M'; (try simp only [Act.put, List.setIfInBounds_toArray, List.set_cons_zero, List.set_cons_succ, List.drop_succ_cons, List.drop_zero, List.take_succ_cons, List.take_zero, putAt, ints_set, ints_push] at M'); replace M := Lib.hid M'; clear M'))
  first | refine bodyPost_ret (v := .tuple #[]) (by simp [results, Try.results51, go_sem]) rfl ?_ | refine bodyPost_end (v := .tuple #[]) (by simp [results, Try.results51, go_sem]) rfl ?_
  refine ⟨rfl, ?_⟩
  rw [HD.out, if_neg (by simp; omega), e, if_neg (by first | omega | (dsimp only; omega))]
  exact ⟨_, _, _, _, _, _, _, _, _, M.out⟩
end Go.Proofs.Ytkkcgpoakhllkaa
