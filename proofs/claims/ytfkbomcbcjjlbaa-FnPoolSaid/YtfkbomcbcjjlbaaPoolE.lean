/- (*Pool).end. No condition but lengths. -/
import Derived.Test.YtfkbomcbcjjlbaaPoolW
import Derived.Deep.RegionHeld3
namespace Go.Proofs.Ytfkbomcbcjjlbaa
open Go.RowKit Go.Deep
set_option linter.unusedSimpArgs false
set_option linter.unusedVariables false

theorem Mine.wp_arg {P : Program} {ops : Array Oper} {rest : List Oper} {o : Oper} {a : Act} {Q : Exit → Act → World → Prop} {b w : World} {rs : List Res} (M : Mine b w rs) (hgd : o.guard = none) (ty : TypeId) (x : Operand) (ho : o.op = .load ty x) (p : Addr) (v : Value) (hc : b.cell? p = some v ∧ p.block < b.heap.size) (hx : a.eval x = .pointer (some p))
    (d : TypeDesc) (hu : P.underlying ty = some d) (hd : d.isRow = false) (h : wpList P ops Q rest (a.put o.dst v) w) : wpList P ops Q (o :: rest) a w :=
  wpList_load_cell hgd ty x ho p hx v ((M.ext.cell hc.2).trans hc.1) d hu hd h
theorem ints_gi {l : List Int} {i : Nat} (h : i < l.length) : (ints l)[i]? = some (.int .i64 (gi l i)) := by rw [ints_get, gi_get h]; rfl
theorem ints_gi_set {l : List Int} {i k : Nat} {v : Int} (h : i < l.length) (hk : i ≠ k) : (ints (l.set k v))[i]? = some (.int .i64 (gi l i)) := by rw [ints_get, List.getElem?_set_ne (fun e => hk e.symm), gi_get h]; rfl
theorem ints_gi_at {l : List Int} {k : Nat} {v : Int} (h : k < l.length) : (ints (l.set k v))[k]? = some (.int .i64 v) := by rw [ints_get, List.getElem?_set, if_pos rfl, if_pos h]; rfl
/-- What the walk asks of a pool below task t. -/
structure PW (ps : List Int) (p : Pool) (t K : Nat) : Prop where
  ls : p.state_.length = ps.length
  ll : p.left_.length = ps.length
  en : p.ended_.length + t ≤ K
  lf : ∀ i, i < t → -1000 ≤ gi p.left_ i ∧ gi p.left_ i ≤ 1000

set_option maxRecDepth 4000 in
set_option maxHeartbeats 16000000 in
theorem impl_end (ps : List Int) (hok : tasksOk ps = true) (Ap : Option Addr) (np cp : Nat) (S : Nat → Prop) (b : World) (hs : Sl b S 1 Ap np (ints ps)) : ∀ (f : Nat) (p : Pool) (t : Nat) (w : World) (g : Nat) (fr : List Res), t < f → t < ps.length → PW ps p t 10000 → PoolM b w g p fr → ∀ p', p' = pend ps f p t →
    Calls Try.prog 59 #[.pointer (some ⟨g, 0, none⟩), .slice Ap np cp, .int .i64 t] w fun e w' => e = .returned (.tuple #[]) ∧ PoolM b w' g p' fr := by
  intro f
  induction f with
  | zero => intro p t w g fr h; omega
  | succ f ih =>
    intro p t w g fr htf htn hW M0 p' hp'
    have HPE := Lib.hid hp'
    clear hp'
    have IH := Lib.hid ih
    clear ih
    obtain ⟨qs, ⟨AQ, nQ, cQ⟩, ⟨AC, nC, cC⟩, ⟨AS, nS, cS⟩, ⟨AL, nL, cL⟩, ⟨AT, nT, cT⟩, ⟨AR, nR, cR⟩, ⟨AE, nE, cE⟩, hq, M1⟩ := M0
    simp only [plc, Hdr.val] at M1
    have hlQ := M1.len1 1 rfl
    have hlC := M1.len1 2 rfl
    have hlS := M1.len1 3 rfl
    have hlL := M1.len1 4 rfl
    have hlT := M1.len1 5 rfl
    have hlR := M1.len1 6 rfl
    have hlE := M1.len1 7 rfl
    rw [ints_length] at hlC hlS hlL hlT hlR hlE
    have M := Lib.hid M1
    clear M1
    have hls := hW.ls
    have hll := hW.ll
    have hen := hW.en
    have hlf := Lib.hid hW.lf
    clear hW
    have hnp := hs.len
    obtain ⟨bP, oP, rfl⟩ := hs.addr (by omega)
    obtain ⟨y, hy, hyb, hyc⟩ := hs.int_cell (k := t) (by omega)
    have eyy := gi_of hy
    have HY := Lib.hid (And.intro hyc hyb)
    have EY := Lib.hid eyy
    have hup := task_up hok htn
    rw [eyy] at hup
    have hps := task_len hok
    clear hy hyb hyc eyy
    obtain ⟨gT, rfl⟩ := M.out.addr 5 rfl (by omega)
    obtain ⟨queues, cur, spawned, left, state, ran, ended⟩ := p
    simp only at hlQ hlC hlS hlL hlT hlR hlE hls hll hen hq
    simp only at hlf HPE
    (try simp only at M)
    by_cases h0 : y < 0
    · skip
      have e : pend ps (f + 1) (⟨queues, cur, spawned, left, state, ran, ended⟩ : Pool) t = ⟨queues, cur, spawned, left, state.set t 4, ran, ended ++ [(t : Int)]⟩ := by unfold pend; rw [if_pos (by rw [EY.out]; exact h0)]
      have HE := Lib.hid e
      clear e
      have b0 : decide (y < 0) = true := decide_eq_true h0
      go_enter Try.func59, Try.ntmps59
      go_wp2_with (first | (refine Mine.wp_get M.out rfl _ _ rfl 0 _ rfl rfl _ rfl _ (by first | exact Try.underlying3 | exact Try.underlying22 | exact Try.underlying34) (by rfl) ?_; (try simp only [Act.put, List.setIfInBounds_toArray, List.set_cons_zero, List.set_cons_succ, List.drop_succ_cons, List.drop_zero, List.take_succ_cons, List.take_zero, putAt, ints_set, ints_push, List.getElem_toArray, List.getElem_cons_zero, List.getElem_cons_succ])) | (refine Mine.wp_arg M.out rfl _ _ rfl _ _ HY.out rfl _ (by first | exact Try.underlying3 | exact Try.underlying22) (by rfl) ?_; (try simp only [Act.put, List.setIfInBounds_toArray, List.set_cons_zero, List.set_cons_succ, List.drop_succ_cons, List.drop_zero, List.take_succ_cons, List.take_zero, putAt, ints_set, ints_push, List.getElem_toArray, List.getElem_cons_zero, List.getElem_cons_succ])) | (refine Mine.wp_set M.out rfl _ _ _ rfl rfl 0 _ rfl rfl _ (by (conv => lhs; whnf) <;> rfl) (Nat.le_of_ble_eq_true rfl) (by rfl) (by kernel_rfl) ?_; intro w' M'; (try simp only [Act.put, List.setIfInBounds_toArray, List.set_cons_zero, List.set_cons_succ, List.drop_succ_cons, List.drop_zero, List.take_succ_cons, List.take_zero, putAt, ints_set, ints_push, List.getElem_toArray, List.getElem_cons_zero, List.getElem_cons_succ] at M'); replace M := Lib.hid M'; clear M') | (refine Mine.wp_put M.out rfl _ _ _ rfl rfl 5 _ rfl rfl _ (by (conv => lhs; whnf) <;> rfl) (by omega) (by rfl) (by kernel_rfl) ?_; intro w' M'; (try simp only [Act.put, List.setIfInBounds_toArray, List.set_cons_zero, List.set_cons_succ, List.drop_succ_cons, List.drop_zero, List.take_succ_cons, List.take_zero, putAt, ints_set, ints_push, List.getElem_toArray, List.getElem_cons_zero, List.getElem_cons_succ] at M'); replace M := Lib.hid M'; clear M') | (at_builtin; refine Mine.wp_push M.out rfl _ _ 22 rfl 3 _ _ _ Try.underlying22 Try.infoInt rfl (by omega) 7 rfl rfl _ _ rfl rfl rfl (by simp [Value.oneCell']) (by omega) (by unfold maxLen; omega) ?_; intro A2 c2 w' M'; obtain ⟨gp, rfl⟩ := Mine.addr M' 7 rfl (Nat.succ_pos _); (try simp only [Act.put, List.setIfInBounds_toArray, List.set_cons_zero, List.set_cons_succ, List.drop_succ_cons, List.drop_zero, List.take_succ_cons, List.take_zero, putAt, ints_set, ints_push, List.getElem_toArray, List.getElem_cons_zero, List.getElem_cons_succ] at M'); replace M := Lib.hid M'; clear M'))
      first | refine bodyPost_ret (v := .tuple #[]) (by simp [results, Try.results59, go_sem]) rfl ?_ | refine bodyPost_end (v := .tuple #[]) (by simp [results, Try.results59, go_sem]) rfl ?_
      refine ⟨rfl, ?_⟩
      rw [HPE.out, HE.out]
      exact ⟨qs, (AQ, nQ, cQ), (AC, nC, cC), (AS, nS, cS), (AL, nL, cL), (_, nT, cT), (AR, nR, cR), (_, _, _), hq, M.out⟩
    obtain ⟨u, rfl⟩ : ∃ u : Nat, y = (u : Int) := ⟨y.toNat, by omega⟩
    have hut : u < t := by omega
    have hb := hlf.out u hut
    obtain ⟨gL, rfl⟩ := M.out.addr 4 rfl (by omega)
    have z1 := ints_gi (l := left) (i := u) (by omega)
    have z2 := ints_gi_set (l := state) (i := u) (k := t) (v := 4) (by omega) (by omega)
    have z3 := ints_gi_at (l := left) (k := u) (v := gi left u - 1) (by omega)
    generalize hL : gi left u = L at z1 z3 hb
    generalize hS : gi state u = s at z2
    have HL := Lib.hid hL
    have HSS := Lib.hid hS
    clear hL hS
    have b0 : decide ((u : Int) < 0) = false := decide_eq_false (by omega)
    by_cases hs3 : s = 3
    rotate_left
    · skip
      have e : pend ps (f + 1) (⟨queues, cur, spawned, left, state, ran, ended⟩ : Pool) t = ⟨queues, cur, spawned, left.set u (L - 1), state.set t 4, ran, ended ++ [(t : Int)]⟩ := by rw [pend, if_neg (by rw [EY.out]; omega), EY.out, Int.toNat_natCast]; simp only [HSS.out, HL.out]; rw [if_neg (by omega)]
      have HE := Lib.hid e
      clear e
      have b3 : (s == 3) = false := by simpa using hs3
      clear hs3
      go_enter Try.func59, Try.ntmps59
      go_wp2_with (first | (refine Mine.wp_get M.out rfl _ _ rfl 0 _ rfl rfl _ rfl _ (by first | exact Try.underlying3 | exact Try.underlying22 | exact Try.underlying34) (by rfl) ?_; (try simp only [Act.put, List.setIfInBounds_toArray, List.set_cons_zero, List.set_cons_succ, List.drop_succ_cons, List.drop_zero, List.take_succ_cons, List.take_zero, putAt, ints_set, ints_push, List.getElem_toArray, List.getElem_cons_zero, List.getElem_cons_succ])) | (refine Mine.wp_arg M.out rfl _ _ rfl _ _ HY.out rfl _ (by first | exact Try.underlying3 | exact Try.underlying22) (by rfl) ?_; (try simp only [Act.put, List.setIfInBounds_toArray, List.set_cons_zero, List.set_cons_succ, List.drop_succ_cons, List.drop_zero, List.take_succ_cons, List.take_zero, putAt, ints_set, ints_push, List.getElem_toArray, List.getElem_cons_zero, List.getElem_cons_succ])) | (refine Mine.wp_getr M.out rfl _ _ rfl 4 _ rfl rfl _ (by assumption) _ (by first | exact Try.underlying3 | exact Try.underlying22 | exact Try.underlying34) (by rfl) ?_; (try simp only [Act.put, List.setIfInBounds_toArray, List.set_cons_zero, List.set_cons_succ, List.drop_succ_cons, List.drop_zero, List.take_succ_cons, List.take_zero, putAt, ints_set, ints_push, List.getElem_toArray, List.getElem_cons_zero, List.getElem_cons_succ])) | (refine Mine.wp_getr M.out rfl _ _ rfl 5 _ rfl rfl _ (by assumption) _ (by first | exact Try.underlying3 | exact Try.underlying22 | exact Try.underlying34) (by rfl) ?_; (try simp only [Act.put, List.setIfInBounds_toArray, List.set_cons_zero, List.set_cons_succ, List.drop_succ_cons, List.drop_zero, List.take_succ_cons, List.take_zero, putAt, ints_set, ints_push, List.getElem_toArray, List.getElem_cons_zero, List.getElem_cons_succ])) | (refine Mine.wp_set M.out rfl _ _ _ rfl rfl 0 _ rfl rfl _ (by (conv => lhs; whnf) <;> rfl) (Nat.le_of_ble_eq_true rfl) (by rfl) (by kernel_rfl) ?_; intro w' M'; (try simp only [Act.put, List.setIfInBounds_toArray, List.set_cons_zero, List.set_cons_succ, List.drop_succ_cons, List.drop_zero, List.take_succ_cons, List.take_zero, putAt, ints_set, ints_push, List.getElem_toArray, List.getElem_cons_zero, List.getElem_cons_succ] at M'); replace M := Lib.hid M'; clear M') | (refine Mine.wp_put M.out rfl _ _ _ rfl rfl 5 _ rfl rfl _ (by (conv => lhs; whnf) <;> rfl) (by omega) (by rfl) (by kernel_rfl) ?_; intro w' M'; (try simp only [Act.put, List.setIfInBounds_toArray, List.set_cons_zero, List.set_cons_succ, List.drop_succ_cons, List.drop_zero, List.take_succ_cons, List.take_zero, putAt, ints_set, ints_push, List.getElem_toArray, List.getElem_cons_zero, List.getElem_cons_succ] at M'); replace M := Lib.hid M'; clear M') | (refine Mine.wp_put M.out rfl _ _ _ rfl rfl 4 _ rfl rfl _ (by (conv => lhs; whnf) <;> rfl) (by omega) (by rfl) (by kernel_rfl) ?_; intro w' M'; (try simp only [Act.put, List.setIfInBounds_toArray, List.set_cons_zero, List.set_cons_succ, List.drop_succ_cons, List.drop_zero, List.take_succ_cons, List.take_zero, putAt, ints_set, ints_push, List.getElem_toArray, List.getElem_cons_zero, List.getElem_cons_succ] at M'); replace M := Lib.hid M'; clear M') | (at_builtin; refine Mine.wp_push M.out rfl _ _ 22 rfl 3 _ _ _ Try.underlying22 Try.infoInt rfl (by omega) 7 rfl rfl _ _ rfl rfl rfl (by simp [Value.oneCell']) (by omega) (by unfold maxLen; omega) ?_; intro A2 c2 w' M'; obtain ⟨gp, rfl⟩ := Mine.addr M' 7 rfl (Nat.succ_pos _); (try simp only [Act.put, List.setIfInBounds_toArray, List.set_cons_zero, List.set_cons_succ, List.drop_succ_cons, List.drop_zero, List.take_succ_cons, List.take_zero, putAt, ints_set, ints_push, List.getElem_toArray, List.getElem_cons_zero, List.getElem_cons_succ] at M'); replace M := Lib.hid M'; clear M') | (refine Mine.wp_getg M.out (by rfl) _ _ rfl 0 _ rfl rfl _ rfl _ (by first | exact Try.underlying3 | exact Try.underlying22 | exact Try.underlying34) (by rfl) ?_; (try simp only [Act.put, List.setIfInBounds_toArray, List.set_cons_zero, List.set_cons_succ, List.drop_succ_cons, List.drop_zero, List.take_succ_cons, List.take_zero, putAt, ints_set, ints_push, List.getElem_toArray, List.getElem_cons_zero, List.getElem_cons_succ])) | (refine Mine.wp_getrg M.out (by rfl) _ _ rfl 4 _ rfl rfl _ (by assumption) _ (by first | exact Try.underlying3 | exact Try.underlying22 | exact Try.underlying34) (by rfl) ?_; (try simp only [Act.put, List.setIfInBounds_toArray, List.set_cons_zero, List.set_cons_succ, List.drop_succ_cons, List.drop_zero, List.take_succ_cons, List.take_zero, putAt, ints_set, ints_push, List.getElem_toArray, List.getElem_cons_zero, List.getElem_cons_succ])))
      first | refine bodyPost_ret (v := .tuple #[]) (by simp [results, Try.results59, go_sem]) rfl ?_ | refine bodyPost_end (v := .tuple #[]) (by simp [results, Try.results59, go_sem]) rfl ?_
      refine ⟨rfl, ?_⟩
      rw [HPE.out, HE.out]
      exact ⟨qs, (AQ, nQ, cQ), (AC, nC, cC), (AS, nS, cS), (_, nL, cL), (_, nT, cT), (AR, nR, cR), (_, _, _), hq, M.out⟩
    by_cases hl0 : L - 1 = 0
    rotate_left
    · skip
      have e : pend ps (f + 1) (⟨queues, cur, spawned, left, state, ran, ended⟩ : Pool) t = ⟨queues, cur, spawned, left.set u (L - 1), state.set t 4, ran, ended ++ [(t : Int)]⟩ := by rw [pend, if_neg (by rw [EY.out]; omega), EY.out, Int.toNat_natCast]; simp only [HSS.out, HL.out]; rw [if_neg (by omega)]
      have HE := Lib.hid e
      clear e
      have b3 : (s == 3) = true := by simpa using hs3
      have b4 : (L - 1 == 0) = false := by simpa using hl0
      clear hs3 hl0
      go_enter Try.func59, Try.ntmps59
      go_wp2_with (first | (refine Mine.wp_get M.out rfl _ _ rfl 0 _ rfl rfl _ rfl _ (by first | exact Try.underlying3 | exact Try.underlying22 | exact Try.underlying34) (by rfl) ?_; (try simp only [Act.put, List.setIfInBounds_toArray, List.set_cons_zero, List.set_cons_succ, List.drop_succ_cons, List.drop_zero, List.take_succ_cons, List.take_zero, putAt, ints_set, ints_push, List.getElem_toArray, List.getElem_cons_zero, List.getElem_cons_succ])) | (refine Mine.wp_arg M.out rfl _ _ rfl _ _ HY.out rfl _ (by first | exact Try.underlying3 | exact Try.underlying22) (by rfl) ?_; (try simp only [Act.put, List.setIfInBounds_toArray, List.set_cons_zero, List.set_cons_succ, List.drop_succ_cons, List.drop_zero, List.take_succ_cons, List.take_zero, putAt, ints_set, ints_push, List.getElem_toArray, List.getElem_cons_zero, List.getElem_cons_succ])) | (refine Mine.wp_getr M.out rfl _ _ rfl 4 _ rfl rfl _ (by assumption) _ (by first | exact Try.underlying3 | exact Try.underlying22 | exact Try.underlying34) (by rfl) ?_; (try simp only [Act.put, List.setIfInBounds_toArray, List.set_cons_zero, List.set_cons_succ, List.drop_succ_cons, List.drop_zero, List.take_succ_cons, List.take_zero, putAt, ints_set, ints_push, List.getElem_toArray, List.getElem_cons_zero, List.getElem_cons_succ])) | (refine Mine.wp_getr M.out rfl _ _ rfl 5 _ rfl rfl _ (by assumption) _ (by first | exact Try.underlying3 | exact Try.underlying22 | exact Try.underlying34) (by rfl) ?_; (try simp only [Act.put, List.setIfInBounds_toArray, List.set_cons_zero, List.set_cons_succ, List.drop_succ_cons, List.drop_zero, List.take_succ_cons, List.take_zero, putAt, ints_set, ints_push, List.getElem_toArray, List.getElem_cons_zero, List.getElem_cons_succ])) | (refine Mine.wp_set M.out rfl _ _ _ rfl rfl 0 _ rfl rfl _ (by (conv => lhs; whnf) <;> rfl) (Nat.le_of_ble_eq_true rfl) (by rfl) (by kernel_rfl) ?_; intro w' M'; (try simp only [Act.put, List.setIfInBounds_toArray, List.set_cons_zero, List.set_cons_succ, List.drop_succ_cons, List.drop_zero, List.take_succ_cons, List.take_zero, putAt, ints_set, ints_push, List.getElem_toArray, List.getElem_cons_zero, List.getElem_cons_succ] at M'); replace M := Lib.hid M'; clear M') | (refine Mine.wp_put M.out rfl _ _ _ rfl rfl 5 _ rfl rfl _ (by (conv => lhs; whnf) <;> rfl) (by omega) (by rfl) (by kernel_rfl) ?_; intro w' M'; (try simp only [Act.put, List.setIfInBounds_toArray, List.set_cons_zero, List.set_cons_succ, List.drop_succ_cons, List.drop_zero, List.take_succ_cons, List.take_zero, putAt, ints_set, ints_push, List.getElem_toArray, List.getElem_cons_zero, List.getElem_cons_succ] at M'); replace M := Lib.hid M'; clear M') | (refine Mine.wp_put M.out rfl _ _ _ rfl rfl 4 _ rfl rfl _ (by (conv => lhs; whnf) <;> rfl) (by omega) (by rfl) (by kernel_rfl) ?_; intro w' M'; (try simp only [Act.put, List.setIfInBounds_toArray, List.set_cons_zero, List.set_cons_succ, List.drop_succ_cons, List.drop_zero, List.take_succ_cons, List.take_zero, putAt, ints_set, ints_push, List.getElem_toArray, List.getElem_cons_zero, List.getElem_cons_succ] at M'); replace M := Lib.hid M'; clear M') | (at_builtin; refine Mine.wp_push M.out rfl _ _ 22 rfl 3 _ _ _ Try.underlying22 Try.infoInt rfl (by omega) 7 rfl rfl _ _ rfl rfl rfl (by simp [Value.oneCell']) (by omega) (by unfold maxLen; omega) ?_; intro A2 c2 w' M'; obtain ⟨gp, rfl⟩ := Mine.addr M' 7 rfl (Nat.succ_pos _); (try simp only [Act.put, List.setIfInBounds_toArray, List.set_cons_zero, List.set_cons_succ, List.drop_succ_cons, List.drop_zero, List.take_succ_cons, List.take_zero, putAt, ints_set, ints_push, List.getElem_toArray, List.getElem_cons_zero, List.getElem_cons_succ] at M'); replace M := Lib.hid M'; clear M') | (refine Mine.wp_getg M.out (by rfl) _ _ rfl 0 _ rfl rfl _ rfl _ (by first | exact Try.underlying3 | exact Try.underlying22 | exact Try.underlying34) (by rfl) ?_; (try simp only [Act.put, List.setIfInBounds_toArray, List.set_cons_zero, List.set_cons_succ, List.drop_succ_cons, List.drop_zero, List.take_succ_cons, List.take_zero, putAt, ints_set, ints_push, List.getElem_toArray, List.getElem_cons_zero, List.getElem_cons_succ])) | (refine Mine.wp_getrg M.out (by rfl) _ _ rfl 4 _ rfl rfl _ (by assumption) _ (by first | exact Try.underlying3 | exact Try.underlying22 | exact Try.underlying34) (by rfl) ?_; (try simp only [Act.put, List.setIfInBounds_toArray, List.set_cons_zero, List.set_cons_succ, List.drop_succ_cons, List.drop_zero, List.take_succ_cons, List.take_zero, putAt, ints_set, ints_push, List.getElem_toArray, List.getElem_cons_zero, List.getElem_cons_succ])))
      first | refine bodyPost_ret (v := .tuple #[]) (by simp [results, Try.results59, go_sem]) rfl ?_ | refine bodyPost_end (v := .tuple #[]) (by simp [results, Try.results59, go_sem]) rfl ?_
      refine ⟨rfl, ?_⟩
      rw [HPE.out, HE.out]
      exact ⟨qs, (AQ, nQ, cQ), (AC, nC, cC), (AS, nS, cS), (_, nL, cL), (_, nT, cT), (AR, nR, cR), (_, _, _), hq, M.out⟩
    have e : pend ps (f + 1) (⟨queues, cur, spawned, left, state, ran, ended⟩ : Pool) t = pend ps f ⟨queues, cur, spawned, left.set u (L - 1), state.set t 4, ran, ended ++ [(t : Int)]⟩ u := by rw [pend, if_neg (by rw [EY.out]; omega), EY.out, Int.toNat_natCast]; simp only [HSS.out, HL.out]; rw [if_pos ⟨hs3, hl0⟩]
    have HE := Lib.hid e
    clear e
    have b3 : (s == 3) = true := by simpa using hs3
    have b4 : (L - 1 == 0) = true := by simpa using hl0
    have hlf2 := Lib.hid (show ∀ i, i < u → -1000 ≤ gi (left.set u (L - 1)) i ∧ gi (left.set u (L - 1)) i ≤ 1000 from fun i hi => by have := hlf.out i (by omega); unfold gi at *; rw [List.getElem?_set_ne (by omega)]; exact this)
    clear hs3 hl0
    go_enter Try.func59, Try.ntmps59
    go_wp2_with (first | (go_at_call 59; refine (IH.out ⟨queues, cur, spawned, left.set u (L - 1), state.set t 4, ran, ended ++ [(t : Int)]⟩ u _ g fr (by omega) (by omega) ⟨by simpa using hls, by simpa using hll, by simp; omega, hlf2.out⟩ ⟨qs, (AQ, nQ, cQ), (AC, nC, cC), (AS, nS, cS), (_, nL, cL), (_, nT, cT), (AR, nR, cR), (_, _, _), hq, M.out⟩ _ rfl).mono ?_; rintro e w2 ⟨rfl, M2⟩) | (first | (refine Mine.wp_get M.out rfl _ _ rfl 0 _ rfl rfl _ rfl _ (by first | exact Try.underlying3 | exact Try.underlying22 | exact Try.underlying34) (by rfl) ?_; (try simp only [Act.put, List.setIfInBounds_toArray, List.set_cons_zero, List.set_cons_succ, List.drop_succ_cons, List.drop_zero, List.take_succ_cons, List.take_zero, putAt, ints_set, ints_push, List.getElem_toArray, List.getElem_cons_zero, List.getElem_cons_succ])) | (refine Mine.wp_arg M.out rfl _ _ rfl _ _ HY.out rfl _ (by first | exact Try.underlying3 | exact Try.underlying22) (by rfl) ?_; (try simp only [Act.put, List.setIfInBounds_toArray, List.set_cons_zero, List.set_cons_succ, List.drop_succ_cons, List.drop_zero, List.take_succ_cons, List.take_zero, putAt, ints_set, ints_push, List.getElem_toArray, List.getElem_cons_zero, List.getElem_cons_succ])) | (refine Mine.wp_getr M.out rfl _ _ rfl 4 _ rfl rfl _ (by assumption) _ (by first | exact Try.underlying3 | exact Try.underlying22 | exact Try.underlying34) (by rfl) ?_; (try simp only [Act.put, List.setIfInBounds_toArray, List.set_cons_zero, List.set_cons_succ, List.drop_succ_cons, List.drop_zero, List.take_succ_cons, List.take_zero, putAt, ints_set, ints_push, List.getElem_toArray, List.getElem_cons_zero, List.getElem_cons_succ])) | (refine Mine.wp_getr M.out rfl _ _ rfl 5 _ rfl rfl _ (by assumption) _ (by first | exact Try.underlying3 | exact Try.underlying22 | exact Try.underlying34) (by rfl) ?_; (try simp only [Act.put, List.setIfInBounds_toArray, List.set_cons_zero, List.set_cons_succ, List.drop_succ_cons, List.drop_zero, List.take_succ_cons, List.take_zero, putAt, ints_set, ints_push, List.getElem_toArray, List.getElem_cons_zero, List.getElem_cons_succ])) | (refine Mine.wp_set M.out rfl _ _ _ rfl rfl 0 _ rfl rfl _ (by (conv => lhs; whnf) <;> rfl) (Nat.le_of_ble_eq_true rfl) (by rfl) (by kernel_rfl) ?_; intro w' M'; (try simp only [Act.put, List.setIfInBounds_toArray, List.set_cons_zero, List.set_cons_succ, List.drop_succ_cons, List.drop_zero, List.take_succ_cons, List.take_zero, putAt, ints_set, ints_push, List.getElem_toArray, List.getElem_cons_zero, List.getElem_cons_succ] at M'); replace M := Lib.hid M'; clear M') | (refine Mine.wp_put M.out rfl _ _ _ rfl rfl 5 _ rfl rfl _ (by (conv => lhs; whnf) <;> rfl) (by omega) (by rfl) (by kernel_rfl) ?_; intro w' M'; (try simp only [Act.put, List.setIfInBounds_toArray, List.set_cons_zero, List.set_cons_succ, List.drop_succ_cons, List.drop_zero, List.take_succ_cons, List.take_zero, putAt, ints_set, ints_push, List.getElem_toArray, List.getElem_cons_zero, List.getElem_cons_succ] at M'); replace M := Lib.hid M'; clear M') | (refine Mine.wp_put M.out rfl _ _ _ rfl rfl 4 _ rfl rfl _ (by (conv => lhs; whnf) <;> rfl) (by omega) (by rfl) (by kernel_rfl) ?_; intro w' M'; (try simp only [Act.put, List.setIfInBounds_toArray, List.set_cons_zero, List.set_cons_succ, List.drop_succ_cons, List.drop_zero, List.take_succ_cons, List.take_zero, putAt, ints_set, ints_push, List.getElem_toArray, List.getElem_cons_zero, List.getElem_cons_succ] at M'); replace M := Lib.hid M'; clear M') | (at_builtin; refine Mine.wp_push M.out rfl _ _ 22 rfl 3 _ _ _ Try.underlying22 Try.infoInt rfl (by omega) 7 rfl rfl _ _ rfl rfl rfl (by simp [Value.oneCell']) (by omega) (by unfold maxLen; omega) ?_; intro A2 c2 w' M'; obtain ⟨gp, rfl⟩ := Mine.addr M' 7 rfl (Nat.succ_pos _); (try simp only [Act.put, List.setIfInBounds_toArray, List.set_cons_zero, List.set_cons_succ, List.drop_succ_cons, List.drop_zero, List.take_succ_cons, List.take_zero, putAt, ints_set, ints_push, List.getElem_toArray, List.getElem_cons_zero, List.getElem_cons_succ] at M'); replace M := Lib.hid M'; clear M') | (refine Mine.wp_getg M.out (by rfl) _ _ rfl 0 _ rfl rfl _ rfl _ (by first | exact Try.underlying3 | exact Try.underlying22 | exact Try.underlying34) (by rfl) ?_; (try simp only [Act.put, List.setIfInBounds_toArray, List.set_cons_zero, List.set_cons_succ, List.drop_succ_cons, List.drop_zero, List.take_succ_cons, List.take_zero, putAt, ints_set, ints_push, List.getElem_toArray, List.getElem_cons_zero, List.getElem_cons_succ])) | (refine Mine.wp_getrg M.out (by rfl) _ _ rfl 4 _ rfl rfl _ (by assumption) _ (by first | exact Try.underlying3 | exact Try.underlying22 | exact Try.underlying34) (by rfl) ?_; (try simp only [Act.put, List.setIfInBounds_toArray, List.set_cons_zero, List.set_cons_succ, List.drop_succ_cons, List.drop_zero, List.take_succ_cons, List.take_zero, putAt, ints_set, ints_push, List.getElem_toArray, List.getElem_cons_zero, List.getElem_cons_succ]))))
    first | refine bodyPost_ret (v := .tuple #[]) (by simp [results, Try.results59, go_sem]) rfl ?_ | refine bodyPost_end (v := .tuple #[]) (by simp [results, Try.results59, go_sem]) rfl ?_
    refine ⟨rfl, ?_⟩
    rw [HPE.out, HE.out]
    exact M2
end Go.Proofs.Ytfkbomcbcjjlbaa
