/- The steps of the program's deque: steal. No condition. -/
import Derived.Test.YtkkcgpoakhllkaaDqWP
namespace Go.Proofs.Ytkkcgpoakhllkaa
open Go.RowKit Go.Deep
set_option linter.unusedSimpArgs false
set_option linter.unusedVariables false
theorem th_one {l : List Thief} {k : Nat} {x y : Thief} (hx : l[k]? = some x) {f : Nat} {v : Value} (hf : f < 4) (h : (Thief.cells x).set f v = Thief.cells y) : (l.flatMap Thief.cells).set (k * 4 + f) v = (l.set k y).flatMap Thief.cells := flat_set Thief.cells_length (by omega) hx hf h
theorem th_set {l : List Thief} {k : Nat} {x : Thief} (hx : l[k]? = some x) (y : Thief) : (l.set k y)[k]? = some y := by rw [List.getElem?_set, if_pos rfl, if_pos (List.getElem?_eq_some_iff.1 hx).1]

set_option maxRecDepth 4000 in
set_option maxHeartbeats 16000000 in
theorem impl_steal (d : Dq) (n N : Nat) (hI : d.Inv n N) (hN : N ≤ 300) (hn4 : n ≤ 3) (k : Nat) (x : Thief) (hx : d.th[k]? = some x) (b w : World) (g : Nat) (fr : List Res) (M0 : DqM b w g d fr) (d' : Dq) (hd' : d' = dsteal d k x) :
    Calls Try.prog 53 #[.pointer (some ⟨g, 0, none⟩), .int .i64 k] w fun e w' => e = .returned (.tuple #[]) ∧ DqM b w' g d' fr := by
  obtain ⟨AI, nI, cI, AT, nT, cT, AK, nK, cK, M1⟩ := M0
  have hlI := M1.len1 1 rfl
  have hlT := M1.len 2 rfl
  have hlK := M1.len 3 rfl
  rw [ints_length] at hlI
  rw [flat_length Thief.cells_length] at hlT
  rw [flat_length Taken.cells_length] at hlK
  have M := Lib.hid M1
  clear M1
  have HD := Lib.hid hd'
  clear hd'
  have hT := hI.thief x (List.mem_of_getElem? hx)
  have hTp := hT.ph
  have hTl := hT.lost
  have hTt := hT.t
  have hT2 := Lib.hid hT.two
  have hv := hI.vb
  have ht := hI.top
  have hn := hI.th
  have htk := hI.tk
  clear hT hI
  obtain ⟨top, bottom, next, items, ⟨ph, ob, ot⟩, th, took⟩ := d
  obtain ⟨xp, xt, xi, xl⟩ := x
  simp only [dqc] at M hTp hTl hTt hv ht hlI hlT hlK hn htk hx
  simp only at HD hT2
  have hkn : k < nT := by have := (List.getElem?_eq_some_iff.1 hx).1; omega
  have hk4 : k * 4 + 4 ≤ nT * 4 := by omega
  obtain ⟨gT, rfl⟩ := M.out.addr 2 rfl (by omega)
  have z0 := flat_get Thief.cells_length th k 0 _ hx (by omega)
  have z1 := flat_get Thief.cells_length th k 1 _ hx (by omega)
  have z2 := flat_get Thief.cells_length th k 2 _ hx (by omega)
  have z3 := flat_get Thief.cells_length th k 3 _ hx (by omega)
  simp only [Thief.cells, Nat.add_zero, List.getElem?_cons_zero, List.getElem?_cons_succ] at z0 z1 z2 z3
  generalize hXT : th.flatMap Thief.cells = XT at M z0 z1 z2 z3
  have HXT := Lib.hid hXT
  have HX := Lib.hid hx
  have hk3 : (k : Int) ≤ 3 := by omega
  have htl : took.length ≤ 300 := by omega
  clear hXT hx
  by_cases h0 : xp = 0
  · skip
    subst h0
    go_enter Try.func53, Try.ntmps53
    go_wp2_with (first | (refine Mine.wp_get M.out rfl _ _ rfl 0 _ rfl rfl _ rfl _ (by first | exact Try.underlying3 | exact Try.underlying29 | exact Try.underlying39 | exact Try.underlying40) (by rfl) ?_; (try simp only [Act.put, List.setIfInBounds_toArray, List.set_cons_zero, List.set_cons_succ, List.drop_succ_cons, List.drop_zero, List.take_succ_cons, List.take_zero, putAt, ints_set, ints_push])) | (refine Mine.wp_getr M.out rfl _ _ rfl 2 _ rfl rfl _ (by assumption) _ (by first | exact Try.underlying3) (by rfl) ?_; (try simp only [Act.put, List.setIfInBounds_toArray, List.set_cons_zero, List.set_cons_succ, List.drop_succ_cons, List.drop_zero, List.take_succ_cons, List.take_zero, putAt, ints_set, ints_push])) | (refine Mine.wp_set M.out rfl _ _ _ rfl rfl 0 _ rfl rfl _ (by (conv => lhs; whnf) <;> rfl) (Nat.le_of_ble_eq_true rfl) (by rfl) (by kernel_rfl) ?_; intro w' M'; (try simp only [Act.put, List.setIfInBounds_toArray, List.set_cons_zero, List.set_cons_succ, List.drop_succ_cons, List.drop_zero, List.take_succ_cons, List.take_zero, putAt, ints_set, ints_push] at M'); replace M := Lib.hid M'; clear M') | (refine Mine.wp_put M.out rfl _ _ _ rfl rfl 2 _ rfl rfl _ (by (conv => lhs; whnf) <;> rfl) (by omega) (by rfl) (by kernel_rfl) ?_; intro w' M'; (try simp only [Act.put, List.setIfInBounds_toArray, List.set_cons_zero, List.set_cons_succ, List.drop_succ_cons, List.drop_zero, List.take_succ_cons, List.take_zero, putAt, ints_set, ints_push] at M'); replace M := Lib.hid M'; clear M') | (refine Mine.wp_puts M.out rfl 67 _ _ rfl rfl 2 _ rfl rfl _ rfl (by simp only [List.length_cons, List.length_nil]; omega) (by simp [Value.oneCell']) (by kernel_rfl) ?_; intro w' M'; (try simp only [Act.put, List.setIfInBounds_toArray, List.set_cons_zero, List.set_cons_succ, List.drop_succ_cons, List.drop_zero, List.take_succ_cons, List.take_zero, putAt, ints_set, ints_push] at M'); replace M := Lib.hid M'; clear M'))
    have E : (XT.set (k * 4 + 1) (.int .i64 top)).set (k * 4) (.int .i64 1) = (th.set k ⟨1, top, xi, xl⟩).flatMap Thief.cells := by
      rw [← HXT.out, th_one (f := 1) (y := ⟨0, top, xi, xl⟩) HX.out (by omega) rfl, show k * 4 = k * 4 + 0 from rfl, th_one (f := 0) (y := ⟨1, top, xi, xl⟩) (th_set HX.out ⟨0, top, xi, xl⟩) (by omega) rfl, List.set_set]
    (try simp only [putAt] at E)
    rw [E] at M
    first | refine bodyPost_ret (v := .tuple #[]) (by simp [results, Try.results53, go_sem]) rfl ?_ | refine bodyPost_end (v := .tuple #[]) (by simp [results, Try.results53, go_sem]) rfl ?_
    refine ⟨rfl, ?_⟩
    rw [HD.out]
    have e : dsteal ⟨top, bottom, next, items, ⟨ph, ob, ot⟩, th, took⟩ k ⟨0, xt, xi, xl⟩ = ⟨top, bottom, next, items, ⟨ph, ob, ot⟩, th.set k ⟨1, top, xi, xl⟩, took⟩ := by unfold dsteal; rw [if_pos rfl]
    rw [e]
    exact ⟨_, _, _, _, _, _, _, _, _, M.out⟩
  by_cases h1 : xp = 1
  · skip
    subst h1
    by_cases c1 : bottom ≤ xt
    · skip
      have bq : decide (bottom ≤ xt) = true := decide_eq_true c1
      go_enter Try.func53, Try.ntmps53
      go_wp2_with (first | (refine Mine.wp_get M.out rfl _ _ rfl 0 _ rfl rfl _ rfl _ (by first | exact Try.underlying3 | exact Try.underlying29 | exact Try.underlying39 | exact Try.underlying40) (by rfl) ?_; (try simp only [Act.put, List.setIfInBounds_toArray, List.set_cons_zero, List.set_cons_succ, List.drop_succ_cons, List.drop_zero, List.take_succ_cons, List.take_zero, putAt, ints_set, ints_push])) | (refine Mine.wp_getr M.out rfl _ _ rfl 2 _ rfl rfl _ (by assumption) _ (by first | exact Try.underlying3) (by rfl) ?_; (try simp only [Act.put, List.setIfInBounds_toArray, List.set_cons_zero, List.set_cons_succ, List.drop_succ_cons, List.drop_zero, List.take_succ_cons, List.take_zero, putAt, ints_set, ints_push])) | (refine Mine.wp_set M.out rfl _ _ _ rfl rfl 0 _ rfl rfl _ (by (conv => lhs; whnf) <;> rfl) (Nat.le_of_ble_eq_true rfl) (by rfl) (by kernel_rfl) ?_; intro w' M'; (try simp only [Act.put, List.setIfInBounds_toArray, List.set_cons_zero, List.set_cons_succ, List.drop_succ_cons, List.drop_zero, List.take_succ_cons, List.take_zero, putAt, ints_set, ints_push] at M'); replace M := Lib.hid M'; clear M') | (refine Mine.wp_put M.out rfl _ _ _ rfl rfl 2 _ rfl rfl _ (by (conv => lhs; whnf) <;> rfl) (by omega) (by rfl) (by kernel_rfl) ?_; intro w' M'; (try simp only [Act.put, List.setIfInBounds_toArray, List.set_cons_zero, List.set_cons_succ, List.drop_succ_cons, List.drop_zero, List.take_succ_cons, List.take_zero, putAt, ints_set, ints_push] at M'); replace M := Lib.hid M'; clear M') | (refine Mine.wp_puts M.out rfl 67 _ _ rfl rfl 2 _ rfl rfl _ rfl (by simp only [List.length_cons, List.length_nil]; omega) (by simp [Value.oneCell']) (by kernel_rfl) ?_; intro w' M'; (try simp only [Act.put, List.setIfInBounds_toArray, List.set_cons_zero, List.set_cons_succ, List.drop_succ_cons, List.drop_zero, List.take_succ_cons, List.take_zero, putAt, ints_set, ints_push] at M'); replace M := Lib.hid M'; clear M'))
      refine Mine.region_quiet M.out (by kernel_rfl) (by kernel_rfl) ?_
      repeat (first | (refine Mine.q_get (by first | exact wanted_none rfl _ | rfl) _ _ rfl 0 _ rfl rfl _ rfl _ (by first | exact Try.underlying3 | exact Try.underlying29 | exact Try.underlying39 | exact Try.underlying40) (by rfl) ?_; (try simp only [Act.put, List.setIfInBounds_toArray, List.set_cons_zero, List.set_cons_succ, List.drop_succ_cons, List.drop_zero, List.take_succ_cons, List.take_zero, putAt, ints_set, ints_push])) | (refine Mine.q_getr (by first | exact wanted_none rfl _ | rfl) _ _ rfl 2 _ rfl rfl _ (by assumption) _ (by first | exact Try.underlying3 | exact Try.underlying29 | exact Try.underlying39 | exact Try.underlying40) (by rfl) ?_; (try simp only [Act.put, List.setIfInBounds_toArray, List.set_cons_zero, List.set_cons_succ, List.drop_succ_cons, List.drop_zero, List.take_succ_cons, List.take_zero, putAt, ints_set, ints_push])) | go_big_quiet_skip | (go_big_quiet_want; unfold Oper.quiet; apply Exists.intro; refine ⟨fun wq hq => ?_, ?_⟩; (clear hq; go_simp; first | done | rfl | exact ⟨rfl, rfl⟩); (try simp only [Act.put, List.setIfInBounds_toArray, List.set_cons_succ, List.set_cons_zero]); go_big_quiet_on))
      refine wpQuiet_nil ?_
      intro w' M'
      replace M := Lib.hid M'
      clear M'
      go_wp2_with (first | (refine Mine.wp_get M.out rfl _ _ rfl 0 _ rfl rfl _ rfl _ (by first | exact Try.underlying3 | exact Try.underlying29 | exact Try.underlying39 | exact Try.underlying40) (by rfl) ?_; (try simp only [Act.put, List.setIfInBounds_toArray, List.set_cons_zero, List.set_cons_succ, List.drop_succ_cons, List.drop_zero, List.take_succ_cons, List.take_zero, putAt, ints_set, ints_push])) | (refine Mine.wp_getr M.out rfl _ _ rfl 2 _ rfl rfl _ (by assumption) _ (by first | exact Try.underlying3) (by rfl) ?_; (try simp only [Act.put, List.setIfInBounds_toArray, List.set_cons_zero, List.set_cons_succ, List.drop_succ_cons, List.drop_zero, List.take_succ_cons, List.take_zero, putAt, ints_set, ints_push])) | (refine Mine.wp_set M.out rfl _ _ _ rfl rfl 0 _ rfl rfl _ (by (conv => lhs; whnf) <;> rfl) (Nat.le_of_ble_eq_true rfl) (by rfl) (by kernel_rfl) ?_; intro w' M'; (try simp only [Act.put, List.setIfInBounds_toArray, List.set_cons_zero, List.set_cons_succ, List.drop_succ_cons, List.drop_zero, List.take_succ_cons, List.take_zero, putAt, ints_set, ints_push] at M'); replace M := Lib.hid M'; clear M') | (refine Mine.wp_put M.out rfl _ _ _ rfl rfl 2 _ rfl rfl _ (by (conv => lhs; whnf) <;> rfl) (by omega) (by rfl) (by kernel_rfl) ?_; intro w' M'; (try simp only [Act.put, List.setIfInBounds_toArray, List.set_cons_zero, List.set_cons_succ, List.drop_succ_cons, List.drop_zero, List.take_succ_cons, List.take_zero, putAt, ints_set, ints_push] at M'); replace M := Lib.hid M'; clear M') | (refine Mine.wp_puts M.out rfl 67 _ _ rfl rfl 2 _ rfl rfl _ rfl (by simp only [List.length_cons, List.length_nil]; omega) (by simp [Value.oneCell']) (by kernel_rfl) ?_; intro w' M'; (try simp only [Act.put, List.setIfInBounds_toArray, List.set_cons_zero, List.set_cons_succ, List.drop_succ_cons, List.drop_zero, List.take_succ_cons, List.take_zero, putAt, ints_set, ints_push] at M'); replace M := Lib.hid M'; clear M'))
      have E : putAt XT (k * 4) [.int .i64 0, .int .i64 0, .int .i64 0, .int .i64 xl] = (th.set k ⟨0, 0, 0, xl⟩).flatMap Thief.cells := by
        rw [← HXT.out]
        exact flat_put (a := ⟨0, 0, 0, xl⟩) Thief.cells_length (by omega) (by omega)
      (try simp only [putAt] at E)
      rw [E] at M
      first | refine bodyPost_ret (v := .tuple #[]) (by simp [results, Try.results53, go_sem]) rfl ?_ | refine bodyPost_end (v := .tuple #[]) (by simp [results, Try.results53, go_sem]) rfl ?_
      refine ⟨rfl, ?_⟩
      rw [HD.out]
      have e : dsteal ⟨top, bottom, next, items, ⟨ph, ob, ot⟩, th, took⟩ k ⟨1, xt, xi, xl⟩ = ⟨top, bottom, next, items, ⟨ph, ob, ot⟩, th.set k ⟨0, 0, 0, xl⟩, took⟩ := by unfold dsteal; rw [if_neg (by simp), if_pos rfl, if_pos (by first | omega | (dsimp only; omega))]
      rw [e]
      exact ⟨_, _, _, _, _, _, _, _, _, M.out⟩
    have bq : decide (bottom ≤ xt) = false := decide_eq_false c1
    go_enter Try.func53, Try.ntmps53
    go_wp2_with (first | (refine Mine.wp_get M.out rfl _ _ rfl 0 _ rfl rfl _ rfl _ (by first | exact Try.underlying3 | exact Try.underlying29 | exact Try.underlying39 | exact Try.underlying40) (by rfl) ?_; (try simp only [Act.put, List.setIfInBounds_toArray, List.set_cons_zero, List.set_cons_succ, List.drop_succ_cons, List.drop_zero, List.take_succ_cons, List.take_zero, putAt, ints_set, ints_push])) | (refine Mine.wp_getr M.out rfl _ _ rfl 2 _ rfl rfl _ (by assumption) _ (by first | exact Try.underlying3) (by rfl) ?_; (try simp only [Act.put, List.setIfInBounds_toArray, List.set_cons_zero, List.set_cons_succ, List.drop_succ_cons, List.drop_zero, List.take_succ_cons, List.take_zero, putAt, ints_set, ints_push])) | (refine Mine.wp_set M.out rfl _ _ _ rfl rfl 0 _ rfl rfl _ (by (conv => lhs; whnf) <;> rfl) (Nat.le_of_ble_eq_true rfl) (by rfl) (by kernel_rfl) ?_; intro w' M'; (try simp only [Act.put, List.setIfInBounds_toArray, List.set_cons_zero, List.set_cons_succ, List.drop_succ_cons, List.drop_zero, List.take_succ_cons, List.take_zero, putAt, ints_set, ints_push] at M'); replace M := Lib.hid M'; clear M') | (refine Mine.wp_put M.out rfl _ _ _ rfl rfl 2 _ rfl rfl _ (by (conv => lhs; whnf) <;> rfl) (by omega) (by rfl) (by kernel_rfl) ?_; intro w' M'; (try simp only [Act.put, List.setIfInBounds_toArray, List.set_cons_zero, List.set_cons_succ, List.drop_succ_cons, List.drop_zero, List.take_succ_cons, List.take_zero, putAt, ints_set, ints_push] at M'); replace M := Lib.hid M'; clear M') | (refine Mine.wp_puts M.out rfl 67 _ _ rfl rfl 2 _ rfl rfl _ rfl (by simp only [List.length_cons, List.length_nil]; omega) (by simp [Value.oneCell']) (by kernel_rfl) ?_; intro w' M'; (try simp only [Act.put, List.setIfInBounds_toArray, List.set_cons_zero, List.set_cons_succ, List.drop_succ_cons, List.drop_zero, List.take_succ_cons, List.take_zero, putAt, ints_set, ints_push] at M'); replace M := Lib.hid M'; clear M'))
    refine Mine.region_quiet M.out (by kernel_rfl) (by kernel_rfl) ?_
    repeat (first | (refine Mine.q_get (by first | exact wanted_none rfl _ | rfl) _ _ rfl 0 _ rfl rfl _ rfl _ (by first | exact Try.underlying3 | exact Try.underlying29 | exact Try.underlying39 | exact Try.underlying40) (by rfl) ?_; (try simp only [Act.put, List.setIfInBounds_toArray, List.set_cons_zero, List.set_cons_succ, List.drop_succ_cons, List.drop_zero, List.take_succ_cons, List.take_zero, putAt, ints_set, ints_push])) | (refine Mine.q_getr (by first | exact wanted_none rfl _ | rfl) _ _ rfl 2 _ rfl rfl _ (by assumption) _ (by first | exact Try.underlying3 | exact Try.underlying29 | exact Try.underlying39 | exact Try.underlying40) (by rfl) ?_; (try simp only [Act.put, List.setIfInBounds_toArray, List.set_cons_zero, List.set_cons_succ, List.drop_succ_cons, List.drop_zero, List.take_succ_cons, List.take_zero, putAt, ints_set, ints_push])) | go_big_quiet_skip | (go_big_quiet_want; unfold Oper.quiet; apply Exists.intro; refine ⟨fun wq hq => ?_, ?_⟩; (clear hq; go_simp; first | done | rfl | exact ⟨rfl, rfl⟩); (try simp only [Act.put, List.setIfInBounds_toArray, List.set_cons_succ, List.set_cons_zero]); go_big_quiet_on))
    refine wpQuiet_nil ?_
    intro w' M'
    replace M := Lib.hid M'
    clear M'
    go_wp2_with (first | (refine Mine.wp_get M.out rfl _ _ rfl 0 _ rfl rfl _ rfl _ (by first | exact Try.underlying3 | exact Try.underlying29 | exact Try.underlying39 | exact Try.underlying40) (by rfl) ?_; (try simp only [Act.put, List.setIfInBounds_toArray, List.set_cons_zero, List.set_cons_succ, List.drop_succ_cons, List.drop_zero, List.take_succ_cons, List.take_zero, putAt, ints_set, ints_push])) | (refine Mine.wp_getr M.out rfl _ _ rfl 2 _ rfl rfl _ (by assumption) _ (by first | exact Try.underlying3) (by rfl) ?_; (try simp only [Act.put, List.setIfInBounds_toArray, List.set_cons_zero, List.set_cons_succ, List.drop_succ_cons, List.drop_zero, List.take_succ_cons, List.take_zero, putAt, ints_set, ints_push])) | (refine Mine.wp_set M.out rfl _ _ _ rfl rfl 0 _ rfl rfl _ (by (conv => lhs; whnf) <;> rfl) (Nat.le_of_ble_eq_true rfl) (by rfl) (by kernel_rfl) ?_; intro w' M'; (try simp only [Act.put, List.setIfInBounds_toArray, List.set_cons_zero, List.set_cons_succ, List.drop_succ_cons, List.drop_zero, List.take_succ_cons, List.take_zero, putAt, ints_set, ints_push] at M'); replace M := Lib.hid M'; clear M') | (refine Mine.wp_put M.out rfl _ _ _ rfl rfl 2 _ rfl rfl _ (by (conv => lhs; whnf) <;> rfl) (by omega) (by rfl) (by kernel_rfl) ?_; intro w' M'; (try simp only [Act.put, List.setIfInBounds_toArray, List.set_cons_zero, List.set_cons_succ, List.drop_succ_cons, List.drop_zero, List.take_succ_cons, List.take_zero, putAt, ints_set, ints_push] at M'); replace M := Lib.hid M'; clear M') | (refine Mine.wp_puts M.out rfl 67 _ _ rfl rfl 2 _ rfl rfl _ rfl (by simp only [List.length_cons, List.length_nil]; omega) (by simp [Value.oneCell']) (by kernel_rfl) ?_; intro w' M'; (try simp only [Act.put, List.setIfInBounds_toArray, List.set_cons_zero, List.set_cons_succ, List.drop_succ_cons, List.drop_zero, List.take_succ_cons, List.take_zero, putAt, ints_set, ints_push] at M'); replace M := Lib.hid M'; clear M'))
    have E : XT.set (k * 4) (.int .i64 2) = (th.set k ⟨2, xt, xi, xl⟩).flatMap Thief.cells := by
      rw [← HXT.out, show k * 4 = k * 4 + 0 from rfl, th_one (f := 0) (y := ⟨2, xt, xi, xl⟩) HX.out (by omega) rfl]
    (try simp only [putAt] at E)
    rw [E] at M
    first | refine bodyPost_ret (v := .tuple #[]) (by simp [results, Try.results53, go_sem]) rfl ?_ | refine bodyPost_end (v := .tuple #[]) (by simp [results, Try.results53, go_sem]) rfl ?_
    refine ⟨rfl, ?_⟩
    rw [HD.out]
    have e : dsteal ⟨top, bottom, next, items, ⟨ph, ob, ot⟩, th, took⟩ k ⟨1, xt, xi, xl⟩ = ⟨top, bottom, next, items, ⟨ph, ob, ot⟩, th.set k ⟨2, xt, xi, xl⟩, took⟩ := by unfold dsteal; rw [if_neg (by simp), if_pos rfl, if_neg (by first | omega | (dsimp only; omega))]
    rw [e]
    exact ⟨_, _, _, _, _, _, _, _, _, M.out⟩
  by_cases h2 : xp = 2
  · skip
    subst h2
    have hit := (hT2.out rfl).1
    obtain ⟨gI, rfl⟩ := M.out.addr 1 rfl (by omega)
    obtain ⟨B, rfl⟩ : ∃ B : Nat, xt = (B : Int) := ⟨xt.toNat, by omega⟩
    have hBn : B < nI := by omega
    have HIT : items[B]? = some (items[B]?.getD 0) := by rw [List.getElem?_eq_getElem (by omega)]; rfl
    generalize hy : (items[B]?).getD 0 = y at HIT
    have HY := Lib.hid hy
    clear hy
    have i0 : (ints items)[B]? = some (.int .i64 y) := by rw [ints_get, HIT]; rfl
    clear HIT hit
    go_enter Try.func53, Try.ntmps53
    go_wp2_with (first | (refine Mine.wp_get M.out rfl _ _ rfl 0 _ rfl rfl _ rfl _ (by first | exact Try.underlying3 | exact Try.underlying29 | exact Try.underlying39 | exact Try.underlying40) (by rfl) ?_; (try simp only [Act.put, List.setIfInBounds_toArray, List.set_cons_zero, List.set_cons_succ, List.drop_succ_cons, List.drop_zero, List.take_succ_cons, List.take_zero, putAt, ints_set, ints_push])) | (refine Mine.wp_getr M.out rfl _ _ rfl 2 _ rfl rfl _ (by assumption) _ (by first | exact Try.underlying3) (by rfl) ?_; (try simp only [Act.put, List.setIfInBounds_toArray, List.set_cons_zero, List.set_cons_succ, List.drop_succ_cons, List.drop_zero, List.take_succ_cons, List.take_zero, putAt, ints_set, ints_push])) | (refine Mine.wp_set M.out rfl _ _ _ rfl rfl 0 _ rfl rfl _ (by (conv => lhs; whnf) <;> rfl) (Nat.le_of_ble_eq_true rfl) (by rfl) (by kernel_rfl) ?_; intro w' M'; (try simp only [Act.put, List.setIfInBounds_toArray, List.set_cons_zero, List.set_cons_succ, List.drop_succ_cons, List.drop_zero, List.take_succ_cons, List.take_zero, putAt, ints_set, ints_push] at M'); replace M := Lib.hid M'; clear M') | (refine Mine.wp_put M.out rfl _ _ _ rfl rfl 2 _ rfl rfl _ (by (conv => lhs; whnf) <;> rfl) (by omega) (by rfl) (by kernel_rfl) ?_; intro w' M'; (try simp only [Act.put, List.setIfInBounds_toArray, List.set_cons_zero, List.set_cons_succ, List.drop_succ_cons, List.drop_zero, List.take_succ_cons, List.take_zero, putAt, ints_set, ints_push] at M'); replace M := Lib.hid M'; clear M') | (refine Mine.wp_puts M.out rfl 67 _ _ rfl rfl 2 _ rfl rfl _ rfl (by simp only [List.length_cons, List.length_nil]; omega) (by simp [Value.oneCell']) (by kernel_rfl) ?_; intro w' M'; (try simp only [Act.put, List.setIfInBounds_toArray, List.set_cons_zero, List.set_cons_succ, List.drop_succ_cons, List.drop_zero, List.take_succ_cons, List.take_zero, putAt, ints_set, ints_push] at M'); replace M := Lib.hid M'; clear M'))
    refine Mine.region_tail M.out 12 (by kernel_rfl) (by kernel_rfl) ?_
    simp only [List.take_succ_cons, List.take_zero, List.drop_succ_cons, List.drop_zero]
    repeat (first | (refine Mine.q_get (by first | exact wanted_none rfl _ | rfl) _ _ rfl 0 _ rfl rfl _ rfl _ (by first | exact Try.underlying3 | exact Try.underlying29 | exact Try.underlying39 | exact Try.underlying40) (by rfl) ?_; (try simp only [Act.put, List.setIfInBounds_toArray, List.set_cons_zero, List.set_cons_succ, List.drop_succ_cons, List.drop_zero, List.take_succ_cons, List.take_zero, putAt, ints_set, ints_push])) | (refine Mine.q_getr (by first | exact wanted_none rfl _ | rfl) _ _ rfl 2 _ rfl rfl _ (by assumption) _ (by first | exact Try.underlying3 | exact Try.underlying29 | exact Try.underlying39 | exact Try.underlying40) (by rfl) ?_; (try simp only [Act.put, List.setIfInBounds_toArray, List.set_cons_zero, List.set_cons_succ, List.drop_succ_cons, List.drop_zero, List.take_succ_cons, List.take_zero, putAt, ints_set, ints_push])) | (refine Mine.q_getr (by first | exact wanted_none rfl _ | rfl) _ _ rfl 1 _ rfl rfl _ (by assumption) _ (by first | exact Try.underlying3 | exact Try.underlying29 | exact Try.underlying39 | exact Try.underlying40) (by rfl) ?_; (try simp only [Act.put, List.setIfInBounds_toArray, List.set_cons_zero, List.set_cons_succ, List.drop_succ_cons, List.drop_zero, List.take_succ_cons, List.take_zero, putAt, ints_set, ints_push])) | go_big_quiet_skip | (go_big_quiet_want; unfold Oper.quiet; apply Exists.intro; refine ⟨fun wq hq => ?_, ?_⟩; (clear hq; go_simp; first | done | rfl | exact ⟨rfl, rfl⟩); (try simp only [Act.put, List.setIfInBounds_toArray, List.set_cons_succ, List.set_cons_zero]); go_big_quiet_on))
    refine wpQuiet_nil ?_
    intro w' M'
    replace M := Lib.hid M'
    clear M'
    go_wp2_with (first | (refine Mine.wp_get M.out rfl _ _ rfl 0 _ rfl rfl _ rfl _ (by first | exact Try.underlying3 | exact Try.underlying29 | exact Try.underlying39 | exact Try.underlying40) (by rfl) ?_; (try simp only [Act.put, List.setIfInBounds_toArray, List.set_cons_zero, List.set_cons_succ, List.drop_succ_cons, List.drop_zero, List.take_succ_cons, List.take_zero, putAt, ints_set, ints_push])) | (refine Mine.wp_getr M.out rfl _ _ rfl 2 _ rfl rfl _ (by assumption) _ (by first | exact Try.underlying3) (by rfl) ?_; (try simp only [Act.put, List.setIfInBounds_toArray, List.set_cons_zero, List.set_cons_succ, List.drop_succ_cons, List.drop_zero, List.take_succ_cons, List.take_zero, putAt, ints_set, ints_push])) | (refine Mine.wp_set M.out rfl _ _ _ rfl rfl 0 _ rfl rfl _ (by (conv => lhs; whnf) <;> rfl) (Nat.le_of_ble_eq_true rfl) (by rfl) (by kernel_rfl) ?_; intro w' M'; (try simp only [Act.put, List.setIfInBounds_toArray, List.set_cons_zero, List.set_cons_succ, List.drop_succ_cons, List.drop_zero, List.take_succ_cons, List.take_zero, putAt, ints_set, ints_push] at M'); replace M := Lib.hid M'; clear M') | (refine Mine.wp_put M.out rfl _ _ _ rfl rfl 2 _ rfl rfl _ (by (conv => lhs; whnf) <;> rfl) (by omega) (by rfl) (by kernel_rfl) ?_; intro w' M'; (try simp only [Act.put, List.setIfInBounds_toArray, List.set_cons_zero, List.set_cons_succ, List.drop_succ_cons, List.drop_zero, List.take_succ_cons, List.take_zero, putAt, ints_set, ints_push] at M'); replace M := Lib.hid M'; clear M') | (refine Mine.wp_puts M.out rfl 67 _ _ rfl rfl 2 _ rfl rfl _ rfl (by simp only [List.length_cons, List.length_nil]; omega) (by simp [Value.oneCell']) (by kernel_rfl) ?_; intro w' M'; (try simp only [Act.put, List.setIfInBounds_toArray, List.set_cons_zero, List.set_cons_succ, List.drop_succ_cons, List.drop_zero, List.take_succ_cons, List.take_zero, putAt, ints_set, ints_push] at M'); replace M := Lib.hid M'; clear M'))
    have E : (XT.set (k * 4 + 2) (.int .i64 y)).set (k * 4) (.int .i64 3) = (th.set k ⟨3, B, y, xl⟩).flatMap Thief.cells := by
      rw [← HXT.out, th_one (f := 2) (y := ⟨2, B, y, xl⟩) HX.out (by omega) rfl, show k * 4 = k * 4 + 0 from rfl, th_one (f := 0) (y := ⟨3, B, y, xl⟩) (th_set HX.out ⟨2, B, y, xl⟩) (by omega) rfl, List.set_set]
    (try simp only [putAt] at E)
    rw [E] at M
    first | refine bodyPost_ret (v := .tuple #[]) (by simp [results, Try.results53, go_sem]) rfl ?_ | refine bodyPost_end (v := .tuple #[]) (by simp [results, Try.results53, go_sem]) rfl ?_
    refine ⟨rfl, ?_⟩
    rw [HD.out]
    have e : dsteal ⟨top, bottom, next, items, ⟨ph, ob, ot⟩, th, took⟩ k ⟨2, (B : Int), xi, xl⟩ = ⟨top, bottom, next, items, ⟨ph, ob, ot⟩, th.set k ⟨3, B, y, xl⟩, took⟩ := by unfold dsteal; rw [if_neg (by simp), if_neg (by simp), if_pos rfl, ← HY.out]; rfl
    rw [e]
    exact ⟨_, _, _, _, _, _, _, _, _, M.out⟩
  have h3 : xp = 3 := by omega
  subst h3
  by_cases c1 : top = xt
  · skip
    subst c1
    have bq : (top == top) = true := by simp
    have bq2 : (top != top) = false := by simp
    go_enter Try.func53, Try.ntmps53
    go_wp2_with (first | (refine Mine.wp_get M.out rfl _ _ rfl 0 _ rfl rfl _ rfl _ (by first | exact Try.underlying3 | exact Try.underlying29 | exact Try.underlying39 | exact Try.underlying40) (by rfl) ?_; (try simp only [Act.put, List.setIfInBounds_toArray, List.set_cons_zero, List.set_cons_succ, List.drop_succ_cons, List.drop_zero, List.take_succ_cons, List.take_zero, putAt, ints_set, ints_push])) | (refine Mine.wp_getr M.out rfl _ _ rfl 2 _ rfl rfl _ (by assumption) _ (by first | exact Try.underlying3) (by rfl) ?_; (try simp only [Act.put, List.setIfInBounds_toArray, List.set_cons_zero, List.set_cons_succ, List.drop_succ_cons, List.drop_zero, List.take_succ_cons, List.take_zero, putAt, ints_set, ints_push])) | (refine Mine.wp_set M.out rfl _ _ _ rfl rfl 0 _ rfl rfl _ (by (conv => lhs; whnf) <;> rfl) (Nat.le_of_ble_eq_true rfl) (by rfl) (by kernel_rfl) ?_; intro w' M'; (try simp only [Act.put, List.setIfInBounds_toArray, List.set_cons_zero, List.set_cons_succ, List.drop_succ_cons, List.drop_zero, List.take_succ_cons, List.take_zero, putAt, ints_set, ints_push] at M'); replace M := Lib.hid M'; clear M') | (refine Mine.wp_put M.out rfl _ _ _ rfl rfl 2 _ rfl rfl _ (by (conv => lhs; whnf) <;> rfl) (by omega) (by rfl) (by kernel_rfl) ?_; intro w' M'; (try simp only [Act.put, List.setIfInBounds_toArray, List.set_cons_zero, List.set_cons_succ, List.drop_succ_cons, List.drop_zero, List.take_succ_cons, List.take_zero, putAt, ints_set, ints_push] at M'); replace M := Lib.hid M'; clear M') | (refine Mine.wp_puts M.out rfl 67 _ _ rfl rfl 2 _ rfl rfl _ rfl (by simp only [List.length_cons, List.length_nil]; omega) (by simp [Value.oneCell']) (by kernel_rfl) ?_; intro w' M'; (try simp only [Act.put, List.setIfInBounds_toArray, List.set_cons_zero, List.set_cons_succ, List.drop_succ_cons, List.drop_zero, List.take_succ_cons, List.take_zero, putAt, ints_set, ints_push] at M'); replace M := Lib.hid M'; clear M'))
    refine Mine.region_quiet M.out (by kernel_rfl) (by kernel_rfl) ?_
    repeat (first | (refine Mine.q_get (by first | exact wanted_none rfl _ | rfl) _ _ rfl 0 _ rfl rfl _ rfl _ (by first | exact Try.underlying3 | exact Try.underlying29 | exact Try.underlying39 | exact Try.underlying40) (by rfl) ?_; (try simp only [Act.put, List.setIfInBounds_toArray, List.set_cons_zero, List.set_cons_succ, List.drop_succ_cons, List.drop_zero, List.take_succ_cons, List.take_zero, putAt, ints_set, ints_push])) | (refine Mine.q_getr (by first | exact wanted_none rfl _ | rfl) _ _ rfl 2 _ rfl rfl _ (by assumption) _ (by first | exact Try.underlying3 | exact Try.underlying29 | exact Try.underlying39 | exact Try.underlying40) (by rfl) ?_; (try simp only [Act.put, List.setIfInBounds_toArray, List.set_cons_zero, List.set_cons_succ, List.drop_succ_cons, List.drop_zero, List.take_succ_cons, List.take_zero, putAt, ints_set, ints_push])) | go_big_quiet_skip | (go_big_quiet_want; unfold Oper.quiet; apply Exists.intro; refine ⟨fun wq hq => ?_, ?_⟩; (clear hq; go_simp; first | done | rfl | exact ⟨rfl, rfl⟩); (try simp only [Act.put, List.setIfInBounds_toArray, List.set_cons_succ, List.set_cons_zero]); go_big_quiet_on))
    refine wpQuiet_nil ?_
    intro w' M'
    replace M := Lib.hid M'
    clear M'
    go_wp2_with (first | (go_at_call 64; (with_reducible refine (impl_take (top + 1) bottom next ph ob ot items _ took ((k : Int) + 1) xi (by omega) b _ g _ _ _ _ _ _ _ _ _ _ M.out).mono ?_); rintro e w2 ⟨rfl, A2, c2, M2⟩; replace M := Lib.hid M2; clear M2) | (first | (refine Mine.wp_get M.out rfl _ _ rfl 0 _ rfl rfl _ rfl _ (by first | exact Try.underlying3 | exact Try.underlying29 | exact Try.underlying39 | exact Try.underlying40) (by rfl) ?_; (try simp only [Act.put, List.setIfInBounds_toArray, List.set_cons_zero, List.set_cons_succ, List.drop_succ_cons, List.drop_zero, List.take_succ_cons, List.take_zero, putAt, ints_set, ints_push])) | (refine Mine.wp_getr M.out rfl _ _ rfl 2 _ rfl rfl _ (by assumption) _ (by first | exact Try.underlying3) (by rfl) ?_; (try simp only [Act.put, List.setIfInBounds_toArray, List.set_cons_zero, List.set_cons_succ, List.drop_succ_cons, List.drop_zero, List.take_succ_cons, List.take_zero, putAt, ints_set, ints_push])) | (refine Mine.wp_set M.out rfl _ _ _ rfl rfl 0 _ rfl rfl _ (by (conv => lhs; whnf) <;> rfl) (Nat.le_of_ble_eq_true rfl) (by rfl) (by kernel_rfl) ?_; intro w' M'; (try simp only [Act.put, List.setIfInBounds_toArray, List.set_cons_zero, List.set_cons_succ, List.drop_succ_cons, List.drop_zero, List.take_succ_cons, List.take_zero, putAt, ints_set, ints_push] at M'); replace M := Lib.hid M'; clear M') | (refine Mine.wp_put M.out rfl _ _ _ rfl rfl 2 _ rfl rfl _ (by (conv => lhs; whnf) <;> rfl) (by omega) (by rfl) (by kernel_rfl) ?_; intro w' M'; (try simp only [Act.put, List.setIfInBounds_toArray, List.set_cons_zero, List.set_cons_succ, List.drop_succ_cons, List.drop_zero, List.take_succ_cons, List.take_zero, putAt, ints_set, ints_push] at M'); replace M := Lib.hid M'; clear M') | (refine Mine.wp_puts M.out rfl 67 _ _ rfl rfl 2 _ rfl rfl _ rfl (by simp only [List.length_cons, List.length_nil]; omega) (by simp [Value.oneCell']) (by kernel_rfl) ?_; intro w' M'; (try simp only [Act.put, List.setIfInBounds_toArray, List.set_cons_zero, List.set_cons_succ, List.drop_succ_cons, List.drop_zero, List.take_succ_cons, List.take_zero, putAt, ints_set, ints_push] at M'); replace M := Lib.hid M'; clear M')))
    have E : putAt XT (k * 4) [.int .i64 0, .int .i64 0, .int .i64 0, .int .i64 xl] = (th.set k ⟨0, 0, 0, xl⟩).flatMap Thief.cells := by
      rw [← HXT.out]
      exact flat_put (a := ⟨0, 0, 0, xl⟩) Thief.cells_length (by omega) (by omega)
    (try simp only [putAt] at E)
    rw [E] at M
    first | refine bodyPost_ret (v := .tuple #[]) (by simp [results, Try.results53, go_sem]) rfl ?_ | refine bodyPost_end (v := .tuple #[]) (by simp [results, Try.results53, go_sem]) rfl ?_
    refine ⟨rfl, ?_⟩
    rw [HD.out]
    have e : dsteal ⟨top, bottom, next, items, ⟨ph, ob, ot⟩, th, took⟩ k ⟨3, top, xi, xl⟩ = ⟨top + 1, bottom, next, items, ⟨ph, ob, ot⟩, th.set k ⟨0, 0, 0, xl⟩, took ++ [⟨(k : Int) + 1, xi⟩]⟩ := by unfold dsteal; rw [if_neg (by simp), if_neg (by simp), if_neg (by simp), if_pos rfl]
    rw [e]
    exact ⟨_, _, _, _, _, _, _, _, _, M.out⟩
  have bq : (top == xt) = false := by simpa using c1
  have bq2 : (top != xt) = true := by simpa using c1
  go_enter Try.func53, Try.ntmps53
  go_wp2_with (first | (refine Mine.wp_get M.out rfl _ _ rfl 0 _ rfl rfl _ rfl _ (by first | exact Try.underlying3 | exact Try.underlying29 | exact Try.underlying39 | exact Try.underlying40) (by rfl) ?_; (try simp only [Act.put, List.setIfInBounds_toArray, List.set_cons_zero, List.set_cons_succ, List.drop_succ_cons, List.drop_zero, List.take_succ_cons, List.take_zero, putAt, ints_set, ints_push])) | (refine Mine.wp_getr M.out rfl _ _ rfl 2 _ rfl rfl _ (by assumption) _ (by first | exact Try.underlying3) (by rfl) ?_; (try simp only [Act.put, List.setIfInBounds_toArray, List.set_cons_zero, List.set_cons_succ, List.drop_succ_cons, List.drop_zero, List.take_succ_cons, List.take_zero, putAt, ints_set, ints_push])) | (refine Mine.wp_set M.out rfl _ _ _ rfl rfl 0 _ rfl rfl _ (by (conv => lhs; whnf) <;> rfl) (Nat.le_of_ble_eq_true rfl) (by rfl) (by kernel_rfl) ?_; intro w' M'; (try simp only [Act.put, List.setIfInBounds_toArray, List.set_cons_zero, List.set_cons_succ, List.drop_succ_cons, List.drop_zero, List.take_succ_cons, List.take_zero, putAt, ints_set, ints_push] at M'); replace M := Lib.hid M'; clear M') | (refine Mine.wp_put M.out rfl _ _ _ rfl rfl 2 _ rfl rfl _ (by (conv => lhs; whnf) <;> rfl) (by omega) (by rfl) (by kernel_rfl) ?_; intro w' M'; (try simp only [Act.put, List.setIfInBounds_toArray, List.set_cons_zero, List.set_cons_succ, List.drop_succ_cons, List.drop_zero, List.take_succ_cons, List.take_zero, putAt, ints_set, ints_push] at M'); replace M := Lib.hid M'; clear M') | (refine Mine.wp_puts M.out rfl 67 _ _ rfl rfl 2 _ rfl rfl _ rfl (by simp only [List.length_cons, List.length_nil]; omega) (by simp [Value.oneCell']) (by kernel_rfl) ?_; intro w' M'; (try simp only [Act.put, List.setIfInBounds_toArray, List.set_cons_zero, List.set_cons_succ, List.drop_succ_cons, List.drop_zero, List.take_succ_cons, List.take_zero, putAt, ints_set, ints_push] at M'); replace M := Lib.hid M'; clear M'))
  refine Mine.region_quiet M.out (by kernel_rfl) (by kernel_rfl) ?_
  repeat (first | (refine Mine.q_get (by first | exact wanted_none rfl _ | rfl) _ _ rfl 0 _ rfl rfl _ rfl _ (by first | exact Try.underlying3 | exact Try.underlying29 | exact Try.underlying39 | exact Try.underlying40) (by rfl) ?_; (try simp only [Act.put, List.setIfInBounds_toArray, List.set_cons_zero, List.set_cons_succ, List.drop_succ_cons, List.drop_zero, List.take_succ_cons, List.take_zero, putAt, ints_set, ints_push])) | (refine Mine.q_getr (by first | exact wanted_none rfl _ | rfl) _ _ rfl 2 _ rfl rfl _ (by assumption) _ (by first | exact Try.underlying3 | exact Try.underlying29 | exact Try.underlying39 | exact Try.underlying40) (by rfl) ?_; (try simp only [Act.put, List.setIfInBounds_toArray, List.set_cons_zero, List.set_cons_succ, List.drop_succ_cons, List.drop_zero, List.take_succ_cons, List.take_zero, putAt, ints_set, ints_push])) | go_big_quiet_skip | (go_big_quiet_want; unfold Oper.quiet; apply Exists.intro; refine ⟨fun wq hq => ?_, ?_⟩; (clear hq; go_simp; first | done | rfl | exact ⟨rfl, rfl⟩); (try simp only [Act.put, List.setIfInBounds_toArray, List.set_cons_succ, List.set_cons_zero]); go_big_quiet_on))
  refine wpQuiet_nil ?_
  intro w' M'
  replace M := Lib.hid M'
  clear M'
  go_wp2_with (first | (refine Mine.wp_get M.out rfl _ _ rfl 0 _ rfl rfl _ rfl _ (by first | exact Try.underlying3 | exact Try.underlying29 | exact Try.underlying39 | exact Try.underlying40) (by rfl) ?_; (try simp only [Act.put, List.setIfInBounds_toArray, List.set_cons_zero, List.set_cons_succ, List.drop_succ_cons, List.drop_zero, List.take_succ_cons, List.take_zero, putAt, ints_set, ints_push])) | (refine Mine.wp_getr M.out rfl _ _ rfl 2 _ rfl rfl _ (by assumption) _ (by first | exact Try.underlying3) (by rfl) ?_; (try simp only [Act.put, List.setIfInBounds_toArray, List.set_cons_zero, List.set_cons_succ, List.drop_succ_cons, List.drop_zero, List.take_succ_cons, List.take_zero, putAt, ints_set, ints_push])) | (refine Mine.wp_set M.out rfl _ _ _ rfl rfl 0 _ rfl rfl _ (by (conv => lhs; whnf) <;> rfl) (Nat.le_of_ble_eq_true rfl) (by rfl) (by kernel_rfl) ?_; intro w' M'; (try simp only [Act.put, List.setIfInBounds_toArray, List.set_cons_zero, List.set_cons_succ, List.drop_succ_cons, List.drop_zero, List.take_succ_cons, List.take_zero, putAt, ints_set, ints_push] at M'); replace M := Lib.hid M'; clear M') | (refine Mine.wp_put M.out rfl _ _ _ rfl rfl 2 _ rfl rfl _ (by (conv => lhs; whnf) <;> rfl) (by omega) (by rfl) (by kernel_rfl) ?_; intro w' M'; (try simp only [Act.put, List.setIfInBounds_toArray, List.set_cons_zero, List.set_cons_succ, List.drop_succ_cons, List.drop_zero, List.take_succ_cons, List.take_zero, putAt, ints_set, ints_push] at M'); replace M := Lib.hid M'; clear M') | (refine Mine.wp_puts M.out rfl 67 _ _ rfl rfl 2 _ rfl rfl _ rfl (by simp only [List.length_cons, List.length_nil]; omega) (by simp [Value.oneCell']) (by kernel_rfl) ?_; intro w' M'; (try simp only [Act.put, List.setIfInBounds_toArray, List.set_cons_zero, List.set_cons_succ, List.drop_succ_cons, List.drop_zero, List.take_succ_cons, List.take_zero, putAt, ints_set, ints_push] at M'); replace M := Lib.hid M'; clear M'))
  have E : putAt XT (k * 4) [.int .i64 0, .int .i64 0, .int .i64 0, .int .i64 (xl + 1)] = (th.set k ⟨0, 0, 0, xl + 1⟩).flatMap Thief.cells := by
    rw [← HXT.out]
    exact flat_put (a := ⟨0, 0, 0, xl + 1⟩) Thief.cells_length (by omega) (by omega)
  (try simp only [putAt] at E)
  rw [E] at M
  first | refine bodyPost_ret (v := .tuple #[]) (by simp [results, Try.results53, go_sem]) rfl ?_ | refine bodyPost_end (v := .tuple #[]) (by simp [results, Try.results53, go_sem]) rfl ?_
  refine ⟨rfl, ?_⟩
  rw [HD.out]
  have e : dsteal ⟨top, bottom, next, items, ⟨ph, ob, ot⟩, th, took⟩ k ⟨3, xt, xi, xl⟩ = ⟨top, bottom, next, items, ⟨ph, ob, ot⟩, th.set k ⟨0, 0, 0, xl + 1⟩, took⟩ := by unfold dsteal; rw [if_neg (by simp), if_neg (by simp), if_neg (by simp), if_neg (by first | omega | (dsimp only; omega))]
  rw [e]
  exact ⟨_, _, _, _, _, _, _, _, _, M.out⟩
end Go.Proofs.Ytkkcgpoakhllkaa
