/- The contract of laws.FnPool. No condition. -/
import Derived.Test.YtfkbomcbcjjlbaaPoolDr
import Derived.Test.YtfkbomcbcjjlbaaPoolL
import Derived.Test.YtfkbomcbcjjlbaaOpenB
namespace Go.Proofs.Ytfkbomcbcjjlbaa
open Go.RowKit Go.Deep
set_option linter.unusedSimpArgs false
set_option linter.unusedVariables false

theorem big_any (A : Option Addr) (n c : Nat) (w : World) : Calls Try.prog 32 #[.slice A n c] w fun e w' => e = .returned (.bool (decide ((1048576 : Int) < (n : Int)))) ∧ w = w' := by
  go_enter Try.func32, Try.ntmps32
  go_wp2
  go_ret
  exact ⟨rfl, rfl⟩
theorem big_yes (A : Option Addr) (n c : Nat) (w : World) (h : Hid ((1048576 : Int) < (n : Int))) : Calls Try.prog 32 #[.slice A n c] w fun e w' => e = .returned (.bool true) ∧ w = w' := by
  refine (big_any A n c w).mono ?_
  rintro e w' ⟨rfl, rfl⟩
  rw [decide_eq_true h.out]
  exact ⟨rfl, rfl⟩
theorem big_no (A : Option Addr) (n c : Nat) (w : World) (h : Hid (¬ (1048576 : Int) < (n : Int))) : Calls Try.prog 32 #[.slice A n c] w fun e w' => e = .returned (.bool false) ∧ w = w' := by
  refine (big_any A n c w).mono ?_
  rintro e w' ⟨rfl, rfl⟩
  rw [decide_eq_false h.out]
  exact ⟨rfl, rfl⟩
theorem Sl.low {w : World} {S : Nat → Prop} {size n : Nat} {A : Option Addr} {xs : List Value} (h : Sl w S size A n xs) : Sl w (fun j => j < w.heap.size) size A n xs :=
  ⟨h.1, fun hn => by obtain ⟨b, o, e, _, hb, hc⟩ := h.2 hn; exact ⟨b, o, e, hb, hb, hc⟩⟩
set_option maxHeartbeats 400000 in
theorem sameInts_same (A B : Option Addr) (n c d : Nat) (zs : List Int) (w : World) (S T : Nat → Prop) (ha : Sl w S 1 A n (ints zs)) (hb : Sl w T 1 B n (ints zs)) (hm : n ≤ 9223372036854775807) :
    Calls Try.prog 35 #[.slice A n c, .slice B n d] w fun e w' => e = .returned (.bool true) ∧ Ext w w' := by
  go_enter Try.func35, Try.ntmps35
  go_wp2
  go_loopw [5] (fun i wr => ∃ (k : Nat), k ≤ n ∧ i = .int .i64 k ∧ Ext w wr) (fun i _ => n - (intOf i).toNat)
  case atStart => exact ⟨0, Nat.zero_le _, rfl, Ext.refl' _⟩
  case round =>
    obtain ⟨k, hk, rfl, hx⟩ := hrel
    by_cases hlt : k < n
    · obtain ⟨b1, o1, x, rfl, hb1, hxk, hc1⟩ := (ha.ext hx).int_at hlt
      obtain ⟨b2, o2, y, rfl, hb2, hyk, hc2⟩ := (hb.ext hx).int_at hlt
      rw [hxk] at hyk
      injection hyk with hyk
      subst hyk
      have HE2 := Lib.hid hx
      clear hxk hx
      go_wp2
      go_quiet (fail)
      go_wp2
      go_roundw
      case rel => exact ⟨k + 1, by omega, by go_num, HE2.out.drN _⟩
      case measure => simp [intOf]; omega
    · go_wp2
      go_ret
      exact ⟨rfl, hx⟩
set_option maxHeartbeats 400000 in
theorem has_any (A : Option Addr) (n c : Nat) (zs : List Int) (x : Int) (w : World) (S : Nat → Prop) (hs : Sl w S 1 A n (ints zs)) (hm : n ≤ 9223372036854775807) :
    Calls Try.prog 34 #[.slice A n c, .int .i64 x] w fun e w' => e = .returned (.bool (dec (x ∈ zs))) ∧ w = w' := by
  have H := Lib.hid hs.len
  go_enter Try.func34, Try.ntmps34
  go_wp2
  go_loop [5] (fun i => ∃ (k : Nat), k ≤ n ∧ i = .int .i64 k ∧ Hid (∀ i, i < k → zs[i]? ≠ some x)) (fun i => n - (intOf i).toNat)
  case atStart => exact ⟨0, Nat.zero_le _, rfl, fun _ h => absurd h (Nat.not_lt_zero _)⟩
  case round =>
    obtain ⟨k, hk, rfl, hno⟩ := hrel
    by_cases hlt : k < n
    · obtain ⟨b, o, z, rfl, hb, hz, hc⟩ := hs.int_at hlt
      have HZ := Lib.hid hz
      clear hz hs
      by_cases h : z = x
      · have b0 : (z == x) = true := by simpa using h
        have HH := Lib.hid h
        clear h
        go_wp2
        go_ret
        exact ⟨by rw [dec_yes (List.mem_of_getElem? (HZ.out.trans (congrArg some HH.out)))]; rfl, rfl⟩
      have b0 : (z == x) = false := by simpa using h
      have HH := Lib.hid h
      clear h
      go_wp2
      go_round
      case rel =>
        refine ⟨k + 1, by omega, by go_num, fun i hi => ?_⟩
        by_cases e : i = k
        · subst e; rw [HZ.out]; intro q; injection q with q; exact HH.out q
        · exact hno.out i (by omega)
      case measure => simp [intOf]; omega
    · clear hs
      go_wp2
      go_ret
      have hno2 : ¬ x ∈ zs := by
        intro hm
        obtain ⟨i, hi⟩ := List.mem_iff_getElem?.1 hm
        have := (List.getElem?_eq_some_iff.1 hi).1
        have hl := H.out
        exact hno.out i (by omega) hi
      exact ⟨by rw [dec_no hno2]; rfl, rfl⟩
/-- 's[:k]' of a slice. -/
theorem run_to {w : World} {P : Program} (t e : TypeId) (size : Nat) (ht : P.underlying t = some (.slice e)) (hf : (P.info? e).map (·.size) = some size) (A : Option Addr) (n c k : Nat) (hk : k ≤ c) :
    (Instr.slice t (.slice A n c) none (some (.int .i64 (k : Int))) none).run P w = .ok (.slice A k c) w := by
  have ht' : P.underlying t = some (.slice (P.elem t)) := by simp [Program.elem, ht]
  have he : P.elem t = e := by simp [Program.elem, ht]
  have hz : (Go.sizeOf e).run P w = .ok size w := by
    cases hq : P.info? e with
    | none => simp [hq] at hf
    | some i => simp [hq] at hf; simp [sizeOf, typeInfo, hq, hf]
  rw [run_slice_h w t _ _ _ ht' .i64 _ (by omega) (by omega), he, hz]
  simp [Result.andThen, sliced, Addr.add]
theorem oq_to {P : Program} {o : Oper} {a : Act} {C : World → Prop} {K : Act → Prop} (t : TypeId) (x y : Operand) (ho : o.op = .slice t x none (some y) none) {A : Option Addr} {n c k : Nat} {e : TypeId} (size : Nat) (hx : a.eval x = .slice A n c) (hy : a.eval y = .int .i64 (k : Int)) (ht : P.underlying t = some (.slice e)) (hf : (P.info? e).map (·.size) = some size) (hk : k ≤ c)
    (h : K (a.put o.dst (.slice A k c))) : Oper.quiet P o a C K :=
  ⟨_, fun w' _ => by
    have ht' : P.underlying t = some (.slice (P.elem t)) := by simp [Program.elem, ht]
    unfold Oper.quietAt execOp
    simp only [ho, Option.map, hx, hy, Sem.run_bind, Sem.run_pure, run_sliceAt_slice (w := w') t (.slice A n c) none (some (.int .i64 (k : Int))) none ht', run_to (w := w') t e size ht hf A n c k hk, Result.andThen]
    exact ⟨rfl, rfl⟩, h⟩
/-- All that the law asks of the drained pool. -/
theorem pool_end {ps : List Int} {wk : Int} {l : List Pick} (h : tasksOk ps = true ∧ (1 ≤ wk ∧ wk ≤ 4) ∧ l.length ≤ 300) :
    (poolDrain ps wk l).2 < 200 ∧ poolOver (poolDrain ps wk l).1 = true ∧ (poolDrain ps wk l).1.ran_.length = ps.length ∧ (poolDrain ps wk l).1.ended_.length = ps.length ∧ (poolDrain ps wk l).1.state_.length = ps.length ∧
    (∀ i : Nat, i < ps.length → (i : Int) ∈ (poolDrain ps wk l).1.ran_ ∧ (i : Int) ∈ (poolDrain ps wk l).1.ended_) ∧
    (∀ (j k : Nat) (x y : Int), (poolDrain ps wk l).1.ended_[j]? = some x → (kids ps x)[k]? = some y → y ∈ (poolDrain ps wk l).1.ended_.take j) ∧
    (poolPlay ps wk l).ran_ <+: (poolDrain ps wk l).1.ran_ ∧ (poolPlay ps wk l).queues_.length = wk.toNat := by
  have e1 : poolDrain ps wk l = (pdrain ps wk.toNat 200 (pplay ps wk.toNat (pks l) l.length), pcount ps wk.toNat 200 (pplay ps wk.toNat (pks l) l.length)) := if_pos h
  have e2 : poolPlay ps wk l = pplay ps wk.toNat (pks l) l.length := if_pos h
  obtain ⟨hok, hw, hl⟩ := h
  have hi := play_inv hok (wk := wk.toNat) (by omega) (pks l) l.length (by simp [pks])
  rw [e1, e2]
  simp only
  generalize pplay ps wk.toNat (pks l) l.length = q at hi ⊢
  obtain ⟨h1, h2, _⟩ := drain_all hok 200 hi
  obtain ⟨h3, h4⟩ := drain_over hok hi
  obtain ⟨h5, h6, h7⟩ := over_lists h1 h3
  refine ⟨h4, by rw [over_dec]; exact dec_yes h3, h5, h6, h1.ls, h7, fun j k x y hx hy => ?_, h2, hi.lq⟩
  have hxr := h1.er x (List.mem_of_getElem? hx)
  obtain ⟨X, rfl⟩ : ∃ X : Nat, x = (X : Int) := ⟨x.toNat, by omega⟩
  obtain ⟨K, rfl, hK, hg⟩ := kid_of hy
  exact h1.eo j X K hx hK hg
theorem ints_at {w : World} {S : Nat → Prop} {A : Option Addr} {n k : Nat} {zs : List Int} (h : Sl w S 1 A n (ints zs)) (hk : k < n) : ∃ b o x, A = some ⟨b, o, none⟩ ∧ b < w.heap.size ∧ zs[k]? = some x ∧ w.cell? ⟨b, o + k, none⟩ = some (.int .i64 x) := h.int_at hk
theorem Sl.take_ {w : World} {S : Nat → Prop} {A : Option Addr} {n k : Nat} {zs : List Int} (h : Sl w S 1 A n (ints zs)) (hk : k ≤ n) : Sl w S 1 A k (ints (zs.take k)) := by
  have hl := h.len
  refine ⟨by rw [ints_length, List.length_take]; omega, fun h0 => ?_⟩
  obtain ⟨b, o, e, hs, hb, hc⟩ := h.2 (by omega)
  refine ⟨b, o, e, hs, hb, fun j hj => ?_⟩
  rw [hc j (by omega), ints_get, ints_get, List.getElem?_take, if_pos (by omega)]

set_option maxRecDepth 8000 in
set_option maxHeartbeats 32000000 in
theorem law_FnPool (A : Option Addr) (n c : Nat) (bs : List UInt8) (w : World) (hs : Sl w (fun _ => True) 1 A n (charsD bs)) :
    Calls Try.prog 8 #[.slice A n c] w fun e w' => e = .returned (.bool true) ∧ Ext w w' := by
  by_cases hb : (1048576 : Int) < (n : Int)
  · have HG := Lib.hid hb
    clear hb
    go_enter Try.func8, Try.ntmps8
    go_wp2_with (go_at_call 32; refine (big_yes _ _ _ _ HG).mono ?_; rintro e w' ⟨rfl, rfl⟩)
    go_ret
    exact ⟨rfl, Ext.refl' _⟩
  have HG := Lib.hid hb
  have HS := Lib.hid hs
  have HB : Hid (n ≤ 1048576) := by have h := HG.out; show n ≤ _; omega
  clear hb hs
  go_enter Try.func8, Try.ntmps8
  go_wp2_with (go_at_call 32; refine (big_no _ _ _ _ HG).mono ?_; rintro e w' ⟨rfl, rfl⟩)
  refine (DrawPoolDrain_any w HS.out.low HB.out).mono ?_
  rintro e w1 ⟨B1, m1, d1, N, B2, m2, d2, l1, l2, rfl, hm1, hm2, M1⟩
  have X1 := Lib.hid M1.ext
  have SA := Lib.hid (M1.row_sl 1 rfl)
  have SB := Lib.hid (M1.row_sl 0 rfl)
  have hl1 : l1.length = m1 := SA.out.len
  have hl2 : l2.length = m2 := SB.out.flen Pick.cells_length (by omega)
  clear M1
  go_wp2_with fail
  refine (impl_PoolDrain B1 m1 d1 l1 N B2 m2 d2 l2 w1 _ SA.out (by omega) _ SB.out (by omega)).mono ?_
  rintro e w2 ⟨vs, rfl, qs, ⟨a0, b0, c0⟩, ⟨a1, b1, c1⟩, ⟨a2, b2, c2⟩, ⟨a3, b3, c3⟩, ⟨a4, b4, c4⟩, ⟨a5, b5, c5⟩, ⟨a6, b6, c6⟩, rfl, hq, M2⟩
  have hwt := poolDrain_wt l1 N l2
  have M := Lib.hid M2
  simp only [plc, Hdr.val] at M ⊢
  clear M2
  have l4 := M.out.len1 4 rfl
  have l5 := M.out.len1 5 rfl
  have l6 := M.out.len1 6 rfl
  rw [ints_length] at l4 l5 l6
  have hw4 : Hid (Pool.wt (poolDrain l1 N l2).1 = wtl Order.wt (poolDrain l1 N l2).1.queues_ + (poolDrain l1 N l2).1.cur_.length + (poolDrain l1 N l2).1.spawned_.length + (poolDrain l1 N l2).1.left_.length + (poolDrain l1 N l2).1.state_.length + (poolDrain l1 N l2).1.ran_.length + (poolDrain l1 N l2).1.ended_.length) := rfl
  have hb4 : b4 ≤ 1000 := by have := hw4.out; omega
  have hb5 : b5 ≤ 1000 := by have := hw4.out; omega
  have hb6 : b6 ≤ 1000 := by have := hw4.out; omega
  obtain ⟨cnt, hcnt⟩ : ∃ x : Nat, (poolDrain l1 N l2).2 = x := ⟨_, rfl⟩
  rw [hcnt]
  have HC := Lib.hid hcnt
  clear hcnt
  go_wp2_with (first | (refine Mine.wp_alloc M.out rfl 36 rfl (.agg #[.slice none 0 0, .slice none 0 0, .slice none 0 0, .slice none 0 0, .slice none 0 0, .slice none 0 0, .slice none 0 0]) (by kernel_rfl) ?_; intro gd w' M'; (try simp only [Value.cells, Act.put, List.setIfInBounds_toArray, List.set_cons_zero, List.set_cons_succ, List.drop_succ_cons, List.drop_zero, List.take_succ_cons, List.take_zero, putAt, ints_set, ints_push, List.getElem_toArray, List.getElem_cons_zero, List.getElem_cons_succ] at M'); replace M := Lib.hid M'; clear M'; (try simp only [Act.put, List.setIfInBounds_toArray, List.set_cons_zero, List.set_cons_succ, List.drop_succ_cons, List.drop_zero, List.take_succ_cons, List.take_zero, putAt, ints_set, ints_push, List.getElem_toArray, List.getElem_cons_zero, List.getElem_cons_succ])) | (refine Mine.wp_sets M.out rfl 36 _ _ rfl rfl 0 _ rfl rfl _ rfl (Nat.le_of_ble_eq_true rfl) (by simp [Value.oneCell']) (by kernel_rfl) ?_; intro w' M'; (try simp only [Act.put, List.setIfInBounds_toArray, List.set_cons_zero, List.set_cons_succ, List.drop_succ_cons, List.drop_zero, List.take_succ_cons, List.take_zero, putAt, ints_set, ints_push, List.getElem_toArray, List.getElem_cons_zero, List.getElem_cons_succ] at M'); replace M := Lib.hid M'; clear M'))
  have HR : Hid (Pool.R _ (fun _ => True) [.slice a0 b0 c0, .slice a1 b1 c1, .slice a2 b2 c2, .slice a3 b3 c3, .slice a4 b4 c4, .slice a5 b5 c5, .slice a6 b6 c6] (poolDrain l1 N l2).1) := Lib.hid (poolR (H0 := (a0, b0, c0)) (HC := (a1, b1, c1)) (HS := (a2, b2, c2)) (HL := (a3, b3, c3)) (HT := (a4, b4, c4)) (HR := (a5, b5, c5)) (HE := (a6, b6, c6)) hq hwt M.out.tail)
  generalize hL7 : (Res.row 62 1 a0 b0 c0 (qcells qs)) = L7 at M
  generalize hfr : qrows qs (poolDrain l1 N l2).1.queues_ ++ [] = fr at M
  clear hL7 hfr hw4
  have hM := Lib.hid (SA.out.ext M.out.ext)
  refine (spec_TasksOk B1 m1 d1 l1 _ _ hM.out (by omega)).mono ?_
  rintro e w3 ⟨rfl, rfl⟩
  clear hM
  by_cases hok : tasksOk l1 = true
  rotate_left
  · have hno : ¬ (tasksOk l1 = true ∧ (1 ≤ N ∧ N ≤ 4) ∧ l2.length ≤ 300) := fun h => hok (by first | exact h.1 | (have := h.2; omega))
    have ed : (poolDrain l1 N l2).1 = pzero := by unfold poolDrain; rw [if_neg hno]
    rw [ed] at l4
    have l40 : b4 = 0 := by simpa [pzero] using l4.symm
    subst l40
    clear ed l4 l5 l6
    have hkf : tasksOk l1 = false := by simpa using hok
    rw [hkf]
    clear hno hok HR HC
    go_wp2_with (first | ((with_reducible show wpList _ _ _ (⟨_, _, _, _, _, none⟩ :: _) _ _); first | (refine Mine.wp_get M.out rfl _ _ rfl 0 _ rfl rfl _ rfl _ (by first | exact Try.underlying3 | exact Try.underlying22 | exact Try.underlying34) (by rfl) ?_; (try simp only [Act.put, List.setIfInBounds_toArray, List.set_cons_zero, List.set_cons_succ, List.drop_succ_cons, List.drop_zero, List.take_succ_cons, List.take_zero, putAt, ints_set, ints_push, List.getElem_toArray, List.getElem_cons_zero, List.getElem_cons_succ]))))
    go_ret
    exact ⟨rfl, X1.out.tr M.out.ext⟩
  rw [hok]
  by_cases hN1 : 1 ≤ N
  rotate_left
  · have hno : ¬ (tasksOk l1 = true ∧ (1 ≤ N ∧ N ≤ 4) ∧ l2.length ≤ 300) := fun h => hN1 (by first | exact h.1 | (have := h.2; omega))
    have ed : (poolDrain l1 N l2).1 = pzero := by unfold poolDrain; rw [if_neg hno]
    rw [ed] at l4
    have l40 : b4 = 0 := by simpa [pzero] using l4.symm
    subst l40
    clear ed l4 l5 l6
    have d1_ : decide (N < 1) = true := decide_eq_true (by omega)
    clear hno hN1 HR HC
    go_wp2_with (first | ((with_reducible show wpList _ _ _ (⟨_, _, _, _, _, none⟩ :: _) _ _); first | (refine Mine.wp_get M.out rfl _ _ rfl 0 _ rfl rfl _ rfl _ (by first | exact Try.underlying3 | exact Try.underlying22 | exact Try.underlying34) (by rfl) ?_; (try simp only [Act.put, List.setIfInBounds_toArray, List.set_cons_zero, List.set_cons_succ, List.drop_succ_cons, List.drop_zero, List.take_succ_cons, List.take_zero, putAt, ints_set, ints_push, List.getElem_toArray, List.getElem_cons_zero, List.getElem_cons_succ]))))
    go_ret
    exact ⟨rfl, X1.out.tr M.out.ext⟩
  have d1_ : decide (N < 1) = false := decide_eq_false (by omega)
  by_cases hN4 : N ≤ 4
  rotate_left
  · have hno : ¬ (tasksOk l1 = true ∧ (1 ≤ N ∧ N ≤ 4) ∧ l2.length ≤ 300) := fun h => hN4 (by first | exact h.1 | (have := h.2; omega))
    have ed : (poolDrain l1 N l2).1 = pzero := by unfold poolDrain; rw [if_neg hno]
    rw [ed] at l4
    have l40 : b4 = 0 := by simpa [pzero] using l4.symm
    subst l40
    clear ed l4 l5 l6
    have d2_ : decide (4 < N) = true := decide_eq_true (by omega)
    clear hno hN4 HR HC
    go_wp2_with (first | ((with_reducible show wpList _ _ _ (⟨_, _, _, _, _, none⟩ :: _) _ _); first | (refine Mine.wp_get M.out rfl _ _ rfl 0 _ rfl rfl _ rfl _ (by first | exact Try.underlying3 | exact Try.underlying22 | exact Try.underlying34) (by rfl) ?_; (try simp only [Act.put, List.setIfInBounds_toArray, List.set_cons_zero, List.set_cons_succ, List.drop_succ_cons, List.drop_zero, List.take_succ_cons, List.take_zero, putAt, ints_set, ints_push, List.getElem_toArray, List.getElem_cons_zero, List.getElem_cons_succ]))))
    go_ret
    exact ⟨rfl, X1.out.tr M.out.ext⟩
  have d2_ : decide (4 < N) = false := decide_eq_false (by omega)
  by_cases hm3 : m2 ≤ 300
  rotate_left
  · have hno : ¬ (tasksOk l1 = true ∧ (1 ≤ N ∧ N ≤ 4) ∧ l2.length ≤ 300) := fun h => hm3 (by first | exact h.1 | (have := h.2; omega))
    have ed : (poolDrain l1 N l2).1 = pzero := by unfold poolDrain; rw [if_neg hno]
    rw [ed] at l4
    have l40 : b4 = 0 := by simpa [pzero] using l4.symm
    subst l40
    clear ed l4 l5 l6
    have d3_ : decide ((300 : Int) < (m2 : Int)) = true := decide_eq_true (by omega)
    clear hno hm3 HR HC
    go_wp2_with (first | ((with_reducible show wpList _ _ _ (⟨_, _, _, _, _, none⟩ :: _) _ _); first | (refine Mine.wp_get M.out rfl _ _ rfl 0 _ rfl rfl _ rfl _ (by first | exact Try.underlying3 | exact Try.underlying22 | exact Try.underlying34) (by rfl) ?_; (try simp only [Act.put, List.setIfInBounds_toArray, List.set_cons_zero, List.set_cons_succ, List.drop_succ_cons, List.drop_zero, List.take_succ_cons, List.take_zero, putAt, ints_set, ints_push, List.getElem_toArray, List.getElem_cons_zero, List.getElem_cons_succ]))))
    go_ret
    exact ⟨rfl, X1.out.tr M.out.ext⟩
  have d3_ : decide ((300 : Int) < (m2 : Int)) = false := decide_eq_false (by omega)
  obtain ⟨e1, e2, e3, e4, e5, e6, e7, e8, e9⟩ := pool_end (ps := l1) (wk := N) (l := l2) ⟨hok, ⟨hN1, hN4⟩, by omega⟩
  have hcn : cnt < 200 := by rw [← HC.out]; exact e1
  have E2 := Lib.hid e2
  have E6 := Lib.hid e6
  have E7 := Lib.hid e7
  have E8 := Lib.hid e8
  have E9 := Lib.hid e9
  obtain rfl : m1 = b4 := by omega
  obtain rfl : m1 = b5 := by omega
  obtain rfl : m1 = b6 := by omega
  have dc : decide ((200 : Int) ≤ (cnt : Int)) = false := decide_eq_false (by omega)
  have dn : ((m1 : Int) != (m1 : Int)) = false := by simp
  clear e1 e2 e3 e4 e5 e6 e7 e8 e9 hm3 hok
  generalize hPP : (poolDrain l1 N l2).1 = PP at M E2 E6 E7 E8 HR hwt
  clear hPP HC
  have hl5 : PP.ran_.length = m1 := by have := M.out.len1 6 rfl; rw [ints_length] at this; exact this
  have hl6 : PP.ended_.length = m1 := by have := M.out.len1 7 rfl; rw [ints_length] at this; exact this
  go_wp2_with (first | (go_at_call 20; (with_reducible refine (impl_PoolOver PP _ _ _ HR.out (by omega)).mono ?_); rintro e w4 ⟨rfl, x4⟩; replace M := Lib.hid (M.out.on x4); clear x4; rw [E2.out]) | ((with_reducible show wpList _ _ _ (⟨_, _, _, _, _, none⟩ :: _) _ _); first | (refine Mine.wp_get M.out rfl _ _ rfl 0 _ rfl rfl _ rfl _ (by first | exact Try.underlying3 | exact Try.underlying22 | exact Try.underlying34) (by rfl) ?_; (try simp only [Act.put, List.setIfInBounds_toArray, List.set_cons_zero, List.set_cons_succ, List.drop_succ_cons, List.drop_zero, List.take_succ_cons, List.take_zero, putAt, ints_set, ints_push, List.getElem_toArray, List.getElem_cons_zero, List.getElem_cons_succ]))) | ((with_reducible show wpList _ _ _ (⟨_, .load _ _, _, _, _, some _⟩ :: _) _ _); first | (refine Mine.wp_getg M.out (by rfl) _ _ rfl 0 _ rfl rfl _ rfl _ (by first | exact Try.underlying3 | exact Try.underlying22 | exact Try.underlying34) (by rfl) ?_; (try simp only [Act.put, List.setIfInBounds_toArray, List.set_cons_zero, List.set_cons_succ, List.drop_succ_cons, List.drop_zero, List.take_succ_cons, List.take_zero, putAt, ints_set, ints_push, List.getElem_toArray, List.getElem_cons_zero, List.getElem_cons_succ])) | (refine Mine.wp_getsg M.out (by rfl) 36 _ rfl 0 _ 7 rfl rfl (Nat.le_of_ble_eq_true rfl) _ Try.underlying36 (by rfl) (by kernel_rfl) ?_; (try simp only [Act.put, List.setIfInBounds_toArray, List.set_cons_zero, List.set_cons_succ, List.drop_succ_cons, List.drop_zero, List.take_succ_cons, List.take_zero, putAt, ints_set, ints_push, List.getElem_toArray, List.getElem_cons_zero, List.getElem_cons_succ]))))
  go_loopw [8] (fun i wr => ∃ (k : Nat), k ≤ m1 ∧ i = .int .i64 k ∧ Hid (Mine w1 wr (.box gd 36 (#[.slice a0 b0 c0, .slice a1 b1 c1, .slice a2 b2 c2, .slice a3 b3 c3, .slice a4 m1 c4, .slice a5 m1 c5, .slice a6 m1 c6] : Array Value) :: L7 :: .row 3 1 a1 b1 c1 (ints PP.cur_) :: .row 3 1 a2 b2 c2 (ints PP.spawned_) :: .row 3 1 a3 b3 c3 (ints PP.left_) :: .row 3 1 a4 m1 c4 (ints PP.state_) :: .row 3 1 a5 m1 c5 (ints PP.ran_) :: .row 3 1 a6 m1 c6 (ints PP.ended_) :: fr))) (fun i _ => m1 - (intOf i).toNat)
  case atStart => exact ⟨0, Nat.zero_le _, rfl, M⟩
  case round =>
    clear M
    obtain ⟨k, hk, rfl, M⟩ := hrel
    by_cases hlt : (k : Int) < (m1 : Int)
    · skip
      have hin := E6.out k (by omega)
      have HK1 : Hid (k < m1) := by show _ < _; omega
      have HIN := Lib.hid hin
      clear hin hk
      go_wp2_with (first | (go_at_call 34; (with_reducible refine (has_any a5 m1 c5 PP.ran_ (k : Int) _ _ (M.out.row_sl 6 rfl) (by omega)).mono ?_); rintro e w4 ⟨rfl, rfl⟩; rw [dec_yes HIN.out.1]) | (go_at_call 34; (with_reducible refine (has_any a6 m1 c6 PP.ended_ (k : Int) _ _ (M.out.row_sl 7 rfl) (by omega)).mono ?_); rintro e w4 ⟨rfl, rfl⟩; rw [dec_yes HIN.out.2]) | ((with_reducible show wpList _ _ _ (⟨_, _, _, _, _, none⟩ :: _) _ _); first | (refine Mine.wp_get M.out rfl _ _ rfl 0 _ rfl rfl _ rfl _ (by first | exact Try.underlying3 | exact Try.underlying22 | exact Try.underlying34) (by rfl) ?_; (try simp only [Act.put, List.setIfInBounds_toArray, List.set_cons_zero, List.set_cons_succ, List.drop_succ_cons, List.drop_zero, List.take_succ_cons, List.take_zero, putAt, ints_set, ints_push, List.getElem_toArray, List.getElem_cons_zero, List.getElem_cons_succ]))) | ((with_reducible show wpList _ _ _ (⟨_, .load _ _, _, _, _, some _⟩ :: _) _ _); first | (refine Mine.wp_getg M.out (by rfl) _ _ rfl 0 _ rfl rfl _ rfl _ (by first | exact Try.underlying3 | exact Try.underlying22 | exact Try.underlying34) (by rfl) ?_; (try simp only [Act.put, List.setIfInBounds_toArray, List.set_cons_zero, List.set_cons_succ, List.drop_succ_cons, List.drop_zero, List.take_succ_cons, List.take_zero, putAt, ints_set, ints_push, List.getElem_toArray, List.getElem_cons_zero, List.getElem_cons_succ]))))
      go_roundw
      case rel => exact ⟨k + 1, HK1.out, by go_num, M⟩
      case measure => have := HK1.out; simp [intOf]; omega
    clear E6
    go_wp2
    clear hlt hk
    go_loopw [9] (fun i wr => ∃ (k : Nat), k ≤ m1 ∧ i = .int .i64 k ∧ Hid (Mine w1 wr (.box gd 36 (#[.slice a0 b0 c0, .slice a1 b1 c1, .slice a2 b2 c2, .slice a3 b3 c3, .slice a4 m1 c4, .slice a5 m1 c5, .slice a6 m1 c6] : Array Value) :: L7 :: .row 3 1 a1 b1 c1 (ints PP.cur_) :: .row 3 1 a2 b2 c2 (ints PP.spawned_) :: .row 3 1 a3 b3 c3 (ints PP.left_) :: .row 3 1 a4 m1 c4 (ints PP.state_) :: .row 3 1 a5 m1 c5 (ints PP.ran_) :: .row 3 1 a6 m1 c6 (ints PP.ended_) :: fr))) (fun i _ => m1 - (intOf i).toNat)
    case atStart => exact ⟨0, Nat.zero_le _, rfl, M⟩
    case round =>
      clear M
      obtain ⟨k, hk, rfl, M⟩ := hrel
      by_cases hlt : (k : Int) < (m1 : Int)
      · skip
        obtain ⟨g6, rfl⟩ := M.out.addr 7 rfl (by omega)
        have hx : PP.ended_[k]? = some (PP.ended_[k]'(by omega)) := List.getElem?_eq_getElem (by omega)
        generalize PP.ended_[k]'(by omega) = x at hx
        have hxi : (ints PP.ended_)[k]? = some (.int .i64 x) := by rw [ints_get, hx]; rfl
        have HX := Lib.hid hx
        have HK1 : Hid (k < m1) := by show _ < _; omega
        clear hx
        go_wp2_with (first | (go_at_call 14; (with_reducible refine (impl_KidsOf B1 m1 d1 l1 x _ _ (SA.out.ext M.out.ext) (by omega)).mono ?_); rintro e w4 ⟨BK, mk, dk, rfl, ok, xk⟩; replace M := Lib.hid (M.out.own ok xk); clear ok xk) | ((with_reducible show wpList _ _ _ (⟨_, _, _, _, _, none⟩ :: _) _ _); first | (refine Mine.wp_get M.out rfl _ _ rfl 0 _ rfl rfl _ rfl _ (by first | exact Try.underlying3 | exact Try.underlying22 | exact Try.underlying34) (by rfl) ?_; (try simp only [Act.put, List.setIfInBounds_toArray, List.set_cons_zero, List.set_cons_succ, List.drop_succ_cons, List.drop_zero, List.take_succ_cons, List.take_zero, putAt, ints_set, ints_push, List.getElem_toArray, List.getElem_cons_zero, List.getElem_cons_succ])) | (refine Mine.wp_getr M.out rfl _ _ rfl 7 _ rfl rfl _ (by assumption) _ (by first | exact Try.underlying3) (by rfl) ?_; (try simp only [Act.put, List.setIfInBounds_toArray, List.set_cons_zero, List.set_cons_succ, List.drop_succ_cons, List.drop_zero, List.take_succ_cons, List.take_zero, putAt, ints_set, ints_push, List.getElem_toArray, List.getElem_cons_zero, List.getElem_cons_succ]))))
        clear hxi
        have hmk : (kids l1 x).length = mk := by have := M.out.len1 0 rfl; rw [ints_length] at this; exact this
        have hmk20 : mk ≤ 1048576 := by rw [← hmk]; have := kids_le l1 x; omega
        go_loopw [11] (fun i wr => ∃ (j : Nat), j ≤ mk ∧ i = .int .i64 j ∧ Hid (Mine w1 wr (.row 3 1 BK mk dk (ints (kids l1 x)) :: .box gd 36 (#[.slice a0 b0 c0, .slice a1 b1 c1, .slice a2 b2 c2, .slice a3 b3 c3, .slice a4 m1 c4, .slice a5 m1 c5, .slice (some ⟨g6, 0, none⟩) m1 c6] : Array Value) :: L7 :: .row 3 1 a1 b1 c1 (ints PP.cur_) :: .row 3 1 a2 b2 c2 (ints PP.spawned_) :: .row 3 1 a3 b3 c3 (ints PP.left_) :: .row 3 1 a4 m1 c4 (ints PP.state_) :: .row 3 1 a5 m1 c5 (ints PP.ran_) :: .row 3 1 (some ⟨g6, 0, none⟩) m1 c6 (ints PP.ended_) :: fr))) (fun i _ => mk - (intOf i).toNat)
        case atStart => exact ⟨0, Nat.zero_le _, rfl, M⟩
        case round =>
          clear M
          obtain ⟨j, hj, rfl, M⟩ := hrel
          by_cases hlj : (j : Int) < (mk : Int)
          rotate_left
          · go_wp2
            go_roundw
            case rel => exact ⟨k + 1, HK1.out, by go_num, M.out.tail⟩
            case measure => have := HK1.out; simp [intOf]; omega
          obtain ⟨gk, rfl⟩ := M.out.addr 0 rfl (by omega)
          have hy : (kids l1 x)[j]? = some ((kids l1 x)[j]'(by omega)) := List.getElem?_eq_getElem (by omega)
          generalize (kids l1 x)[j]'(by omega) = y at hy
          have hyi : (ints (kids l1 x))[j]? = some (.int .i64 y) := by rw [ints_get, hy]; rfl
          have HIN := Lib.hid (E7.out k j x y HX.out hy)
          have HJ1 : Hid (j < mk) := by show _ < _; omega
          clear hy
          go_wp2_with fail
          have hc6 := M.out.cap 8 rfl
          have hk1 := HK1.out
          refine Mine.region_quiet M.out (by kernel_rfl) (by kernel_rfl) ?_
          repeat (first | go_big_quiet_skip | (go_big_quiet_want; first | (refine Mine.oq_get _ _ rfl 1 _ rfl rfl _ rfl _ (by first | exact Try.underlying3 | exact Try.underlying22 | exact Try.underlying34) (by rfl) ?_; (try simp only [Act.put, List.setIfInBounds_toArray, List.set_cons_zero, List.set_cons_succ, List.drop_succ_cons, List.drop_zero, List.take_succ_cons, List.take_zero, putAt, ints_set, ints_push, List.getElem_toArray, List.getElem_cons_zero, List.getElem_cons_succ]); go_big_quiet_on) | (refine Mine.oq_getr _ _ rfl 0 _ rfl rfl _ (by assumption) _ (by first | exact Try.underlying3) (by rfl) ?_; (try simp only [Act.put, List.setIfInBounds_toArray, List.set_cons_zero, List.set_cons_succ, List.drop_succ_cons, List.drop_zero, List.take_succ_cons, List.take_zero, putAt, ints_set, ints_push, List.getElem_toArray, List.getElem_cons_zero, List.getElem_cons_succ]); go_big_quiet_on) | (refine oq_to 22 _ _ rfl 1 rfl rfl Try.underlying22 (by kernel_rfl) (by omega) ?_; (try simp only [Act.put, List.setIfInBounds_toArray, List.set_cons_zero, List.set_cons_succ, List.drop_succ_cons, List.drop_zero, List.take_succ_cons, List.take_zero, putAt, ints_set, ints_push, List.getElem_toArray, List.getElem_cons_zero, List.getElem_cons_succ]); go_big_quiet_on) | (unfold Oper.quiet; apply Exists.intro; refine ⟨fun wq hq => ?_, ?_⟩; (go_simp; go_at_call 34; (with_reducible refine (has_any (some ⟨g6, 0, none⟩) k c6 (PP.ended_.take k) y _ _ ((hq.row_sl 8 rfl).take_ (by omega)) (by omega)).mono ?_); rintro e w2 ⟨rfl, rfl⟩; exact ⟨rfl, hq⟩); (try rw [dec_yes HIN.out]); (try simp only [Act.put, List.setIfInBounds_toArray, List.set_cons_succ, List.set_cons_zero]); go_big_quiet_on) | (unfold Oper.quiet; apply Exists.intro; refine ⟨fun wq hq => ?_, ?_⟩; (clear hq; go_simp; first | done | rfl | exact ⟨rfl, rfl⟩); (try simp only [Act.put, List.setIfInBounds_toArray, List.set_cons_succ, List.set_cons_zero]); go_big_quiet_on)))
          refine wpQuiet_nil ?_
          intro w' M'
          replace M := Lib.hid M'
          clear M'
          go_wp2
          go_roundw
          case rel => exact ⟨j + 1, HJ1.out, by go_num, M⟩
          case measure => have := HJ1.out; simp [intOf]; omega
      clear E7
      replace M := Lib.hid (M.out.sub (rs' := [_, _]) (.cons_cons _ (.cons _ (.cons _ (.cons _ (.cons _ (.cons _ (.cons_cons _ (List.nil_sublist _)))))))))
      generalize hQ : poolPlay l1 N l2 = QQ at E8 E9
      have HQ := Lib.hid hQ
      clear hQ
      go_wp2_with (first | (go_at_call 25; (refine (impl_PoolPlay B1 m1 d1 l1 N B2 m2 d2 l2 _ _ (SA.out.ext M.out.ext) (by omega) _ (SB.out.ext M.out.ext) (by omega)).mono ?_); rintro e w5 ⟨vs5, rfl, qs5, ⟨A0, N0, C0⟩, ⟨A1, N1, C1⟩, ⟨A2, N2, C2⟩, ⟨A3, N3, C3⟩, ⟨A4, N4, C4⟩, ⟨A5, N5, C5⟩, ⟨A6, N6, C6⟩, rfl, hq5, M5⟩; rw [HQ.out] at hq5 M5; have k5 := M5.len1 5 rfl; have k0 := M5.len1 0 rfl; replace M := Lib.hid (M.out.call (M5.sub (rs' := [_, _]) (.cons_cons _ (.cons _ (.cons _ (.cons _ (.cons _ (.cons_cons _ (List.nil_sublist _))))))))); clear M5; simp only [plc, Hdr.val, List.cons_append, List.nil_append] at M ⊢) | ((with_reducible show wpList _ _ _ (⟨_, _, _, _, _, none⟩ :: _) _ _); first | (refine Mine.wp_get M.out rfl _ _ rfl 0 _ rfl rfl _ rfl _ (by first | exact Try.underlying3 | exact Try.underlying22 | exact Try.underlying34) (by rfl) ?_; (try simp only [Act.put, List.setIfInBounds_toArray, List.set_cons_zero, List.set_cons_succ, List.drop_succ_cons, List.drop_zero, List.take_succ_cons, List.take_zero, putAt, ints_set, ints_push, List.getElem_toArray, List.getElem_cons_zero, List.getElem_cons_succ])) | (refine Mine.wp_alloc (rs := [_, _, _, _]) M.out rfl 36 rfl (.agg #[.slice none 0 0, .slice none 0 0, .slice none 0 0, .slice none 0 0, .slice none 0 0, .slice none 0 0, .slice none 0 0]) (by kernel_rfl) ?_; intro gv w' M'; (try simp only [Value.cells, Act.put, List.setIfInBounds_toArray, List.set_cons_zero, List.set_cons_succ, List.drop_succ_cons, List.drop_zero, List.take_succ_cons, List.take_zero, putAt, ints_set, ints_push, List.getElem_toArray, List.getElem_cons_zero, List.getElem_cons_succ] at M'); replace M := Lib.hid M'; clear M'; (try simp only [Act.put, List.setIfInBounds_toArray, List.set_cons_zero, List.set_cons_succ, List.drop_succ_cons, List.drop_zero, List.take_succ_cons, List.take_zero, putAt, ints_set, ints_push, List.getElem_toArray, List.getElem_cons_zero, List.getElem_cons_succ])) | (refine Mine.wp_sets M.out rfl 36 _ _ rfl rfl 0 _ rfl rfl _ rfl (Nat.le_of_ble_eq_true rfl) (by simp [Value.oneCell']) (by kernel_rfl) ?_; intro w' M'; (try simp only [Act.put, List.setIfInBounds_toArray, List.set_cons_zero, List.set_cons_succ, List.drop_succ_cons, List.drop_zero, List.take_succ_cons, List.take_zero, putAt, ints_set, ints_push, List.getElem_toArray, List.getElem_cons_zero, List.getElem_cons_succ] at M'); replace M := Lib.hid M'; clear M')))
      rw [ints_length] at k5
      have k0q : qs5.length = N.toNat := by rw [hq5]; exact E9.out
      unfold qcells at k0
      rw [List.length_map] at k0
      have hN0 : (N0 : Int) = N := by omega
      have b0 : ((N0 : Int) == N) = true := by simpa using hN0
      have hle : N5 ≤ m1 := by have h := E8.out.length_le; omega
      have HTK : Hid (PP.ran_.take N5 = QQ.ran_) := by show _ = _; rw [← k5]; exact (List.prefix_iff_eq_take.1 E8.out).symm
      have bl : decide ((N5 : Int) ≤ (m1 : Int)) = true := decide_eq_true (by omega)
      have hcc := M.out.cap 4 rfl
      have hN20 : N5 ≤ 1000 := by omega
      clear hN0 k0 k0q k5 hq5
      refine Mine.region_quiet M.out (by kernel_rfl) (by kernel_rfl) ?_
      repeat (first | go_big_quiet_skip | (go_big_quiet_want; first | (refine Mine.oq_get _ _ rfl 0 _ rfl rfl _ rfl _ (by first | exact Try.underlying3 | exact Try.underlying22 | exact Try.underlying34) (by rfl) ?_; (try simp only [Act.put, List.setIfInBounds_toArray, List.set_cons_zero, List.set_cons_succ, List.drop_succ_cons, List.drop_zero, List.take_succ_cons, List.take_zero, putAt, ints_set, ints_push, List.getElem_toArray, List.getElem_cons_zero, List.getElem_cons_succ]); go_big_quiet_on) | (refine Mine.oq_get _ _ rfl 3 _ rfl rfl _ rfl _ (by first | exact Try.underlying3 | exact Try.underlying22 | exact Try.underlying34) (by rfl) ?_; (try simp only [Act.put, List.setIfInBounds_toArray, List.set_cons_zero, List.set_cons_succ, List.drop_succ_cons, List.drop_zero, List.take_succ_cons, List.take_zero, putAt, ints_set, ints_push, List.getElem_toArray, List.getElem_cons_zero, List.getElem_cons_succ]); go_big_quiet_on) | (refine oq_to 22 _ _ rfl 1 rfl rfl Try.underlying22 (by kernel_rfl) (by omega) ?_; (try simp only [Act.put, List.setIfInBounds_toArray, List.set_cons_zero, List.set_cons_succ, List.drop_succ_cons, List.drop_zero, List.take_succ_cons, List.take_zero, putAt, ints_set, ints_push, List.getElem_toArray, List.getElem_cons_zero, List.getElem_cons_succ]); go_big_quiet_on) | (unfold Oper.quiet; apply Exists.intro; refine ⟨fun wq hq => ?_, ?_⟩; (go_simp; go_at_call 35; (with_reducible refine (sameInts_same A5 a5 N5 C5 c5 QQ.ran_ _ _ _ (hq.row_sl 2 rfl) (by have h := (hq.row_sl 4 rfl).take_ (k := N5) hle; rw [HTK.out] at h; exact h) (by omega)).mono ?_); rintro e w2 ⟨rfl, x2⟩; exact ⟨rfl, hq.on x2⟩); (try simp only [Act.put, List.setIfInBounds_toArray, List.set_cons_succ, List.set_cons_zero]); go_big_quiet_on) | (unfold Oper.quiet; apply Exists.intro; refine ⟨fun wq hq => ?_, ?_⟩; (clear hq; go_simp; first | done | rfl | exact ⟨rfl, rfl⟩); (try simp only [Act.put, List.setIfInBounds_toArray, List.set_cons_succ, List.set_cons_zero]); go_big_quiet_on)))
      refine wpQuiet_nil ?_
      intro w' M'
      replace M := Lib.hid M'
      clear M'
      (try simp only [bl, b0])
      go_wp2
      go_ret
      exact ⟨rfl, X1.out.tr M.out.ext⟩
end Go.Proofs.Ytfkbomcbcjjlbaa
