/- The contract of laws.FnDeque. No condition. -/
import Derived.Test.YtkkcgpoakhllkaaDequeQ
import Derived.Test.YtkkcgpoakhllkaaDqDraw
import Derived.Test.YtkkcgpoakhllkaaOpenB
namespace Go.Proofs.Ytkkcgpoakhllkaa
open Go.RowKit Go.Deep
set_option linter.unusedSimpArgs false
set_option linter.unusedVariables false

theorem big_any (A : Option Addr) (n c : Nat) (w : World) : Calls Try.prog 28 #[.slice A n c] w fun e w' => e = .returned (.bool (decide ((1048576 : Int) < (n : Int)))) ∧ w = w' := by
  go_enter Try.func28, Try.ntmps28
  go_wp2
  go_ret
  exact ⟨rfl, rfl⟩
theorem big_yes (A : Option Addr) (n c : Nat) (w : World) (h : Hid ((1048576 : Int) < (n : Int))) : Calls Try.prog 28 #[.slice A n c] w fun e w' => e = .returned (.bool true) ∧ w = w' := by
  refine (big_any A n c w).mono ?_
  rintro e w' ⟨rfl, rfl⟩
  rw [decide_eq_true h.out]
  exact ⟨rfl, rfl⟩
theorem big_no (A : Option Addr) (n c : Nat) (w : World) (h : Hid (¬ (1048576 : Int) < (n : Int))) : Calls Try.prog 28 #[.slice A n c] w fun e w' => e = .returned (.bool false) ∧ w = w' := by
  refine (big_any A n c w).mono ?_
  rintro e w' ⟨rfl, rfl⟩
  rw [decide_eq_false h.out]
  exact ⟨rfl, rfl⟩
theorem Sl.low {w : World} {S : Nat → Prop} {size n : Nat} {A : Option Addr} {xs : List Value} (h : Sl w S size A n xs) : Sl w (fun j => j < w.heap.size) size A n xs :=
  ⟨h.1, fun hn => by obtain ⟨b, o, e, _, hb, hc⟩ := h.2 hn; exact ⟨b, o, e, hb, hb, hc⟩⟩
theorem took_at {w : World} {S : Nat → Prop} {A : Option Addr} {n : Nat} {l : List Taken} (hs : Sl w S 2 A n (l.flatMap Taken.cells)) {k : Nat} (hk : k < n) : ∃ b o x, A = some ⟨b, o, none⟩ ∧ l[k]? = some x ∧ w.cell? ⟨b, o + k * 2, none⟩ = some (.int .i64 x.who) ∧ w.cell? ⟨b, o + k * 2 + 1, none⟩ = some (.int .i64 x.item) := by
  obtain ⟨b, o, x, e, -, hx, hc⟩ := hs.flat_at Taken.cells_length (by omega) hk
  exact ⟨b, o, x, e, hx, hc 0 (by omega), hc 1 (by omega)⟩
theorem items_take {l : List Taken} {k : Nat} {x : Taken} (hx : l[k]? = some x) : (l.take (k + 1)).map (·.item) = (l.take k).map (·.item) ++ [x.item] := by rw [List.take_add_one, hx]; simp
theorem rest_phase {ph : Int} {l : List Thief} (h : dqRest ph l = true) : ph = 0 := (dec_true h).1

set_option maxRecDepth 8000 in
set_option maxHeartbeats 32000000 in
theorem law_FnDeque (A : Option Addr) (n c : Nat) (bs : List UInt8) (w : World) (hs : Sl w (fun _ => True) 1 A n (charsD bs)) :
    Calls Try.prog 7 #[.slice A n c] w fun e w' => e = .returned (.bool true) ∧ Ext w w' := by
  by_cases hb : (1048576 : Int) < (n : Int)
  · have HG := Lib.hid hb
    clear hb
    go_enter Try.func7, Try.ntmps7
    go_wp2_with (go_at_call 28; refine (big_yes _ _ _ _ HG).mono ?_; rintro e w' ⟨rfl, rfl⟩)
    go_ret
    exact ⟨rfl, Ext.refl' _⟩
  have HG := Lib.hid hb
  have HS := Lib.hid hs
  have HB : Hid (n ≤ 1048576) := by have h := HG.out; show n ≤ _; omega
  clear hb hs
  go_enter Try.func7, Try.ntmps7
  go_wp2_with (go_at_call 28; refine (big_no _ _ _ _ HG).mono ?_; rintro e w' ⟨rfl, rfl⟩)
  refine (DrawDqPlay_any w HS.out.low HB.out).mono ?_
  rintro e w1 ⟨N, B, m, d, l, rfl, hm, M1⟩
  have X1 := Lib.hid M1.ext
  have SA := Lib.hid (M1.row_sl 0 rfl)
  clear M1
  go_wp2_with fail
  refine (impl_DqPlay N B m d l w1 _ SA.out (by omega)).mono ?_
  rintro e w2 ⟨vs, rfl, AI, nI, cI, AT, nT, cT, AK, nK, cK, rfl, M2⟩
  have M := Lib.hid M2
  clear M2
  simp only [dqc]
  go_wp2_with (first | (refine Mine.wp_alloc M.out rfl 42 rfl (.agg #[.int .i64 0, .int .i64 0, .int .i64 0, .slice none 0 0, .int .i64 0, .int .i64 0, .int .i64 0, .slice none 0 0, .slice none 0 0]) (by kernel_rfl) ?_; intro gd w' M'; (try simp only [Value.cells, Act.put, List.setIfInBounds_toArray, List.set_cons_zero, List.set_cons_succ, List.drop_succ_cons, List.drop_zero, List.take_succ_cons, List.take_zero, putAt, ints_set, ints_push] at M'); replace M := Lib.hid M'; clear M'; (try simp only [Act.put, List.setIfInBounds_toArray, List.set_cons_zero, List.set_cons_succ, List.drop_succ_cons, List.drop_zero, List.take_succ_cons, List.take_zero, putAt, ints_set, ints_push])) | (refine Mine.wp_sets M.out rfl 42 _ _ rfl rfl 0 _ rfl rfl _ rfl (Nat.le_of_ble_eq_true rfl) (by simp [Value.oneCell']) (by kernel_rfl) ?_; intro w' M'; (try simp only [Act.put, List.setIfInBounds_toArray, List.set_cons_zero, List.set_cons_succ, List.drop_succ_cons, List.drop_zero, List.take_succ_cons, List.take_zero, putAt, ints_set, ints_push] at M'); replace M := Lib.hid M'; clear M'))
  have hM := Lib.hid (SA.out.ext M.out.ext)
  refine (spec_DqOk N B m d l _ _ hM.out (by omega)).mono ?_
  rintro e w3 ⟨rfl, x3⟩
  replace M := Lib.hid (M.out.on x3)
  clear x3 hM
  by_cases hok : (0 ≤ N ∧ N ≤ 3) ∧ l.length ≤ 300
  rotate_left
  · have hd := dec_no hok
    have ed : dqPlay N l = dzero := if_neg hok
    rw [hd]
    rw [ed] at M
    simp only [dzero] at M
    clear hd ed
    go_wp2_with (first | (refine Mine.wp_get M.out rfl _ _ rfl 0 _ rfl rfl _ rfl _ (by first | exact Try.underlying3 | exact Try.underlying29 | exact Try.underlying39 | exact Try.underlying40) (by rfl) ?_; (try simp only [Act.put, List.setIfInBounds_toArray, List.set_cons_zero, List.set_cons_succ, List.drop_succ_cons, List.drop_zero, List.take_succ_cons, List.take_zero, putAt, ints_set, ints_push])))
    go_ret
    exact ⟨rfl, X1.out.tr M.out.ext⟩
  have hd := dec_yes hok
  have ed : dqPlay N l = dplay N.toNat l l.length := if_pos hok
  obtain ⟨⟨hN0, hN3⟩, hl⟩ := hok
  obtain ⟨T, rfl⟩ : ∃ T : Nat, N = (T : Int) := ⟨N.toNat, by omega⟩
  have HI := inv_play T l l.length (Nat.le_refl _)
  have HO := inv_once HI hl
  rw [hd]
  rw [ed, Int.toNat_natCast] at M
  clear hd ed
  generalize dplay T l l.length = D at M HI HO
  have hnx := HO.lim
  have hlenT := HI.th
  have HLL := Lib.hid (fun hp => live_left HI hp)
  have HWHO := Lib.hid HI.who
  have HON := Lib.hid HO
  have hlI := M.out.len1 1 rfl
  have hlT := M.out.len 2 rfl
  have hlK := M.out.len 3 rfl
  rw [ints_length] at hlI
  rw [flat_length Thief.cells_length] at hlT
  rw [flat_length Taken.cells_length] at hlK
  have htk := HI.tk
  have hvb := HI.vb
  clear HI HO
  obtain ⟨top, bottom, next, items, ⟨ph, ob, ot⟩, th, took⟩ := D
  simp only at M hnx hlenT hlI hlT hlK HLL HWHO HON htk hvb
  obtain rfl : nT = T := by omega
  obtain rfl : took.length = nK := by omega
  have hnL : (302 : Nat) ≤ 302 := Nat.le_refl _
  go_wp2_with (first | (refine Mine.wp_make M.out rfl _ _ 29 rfl 3 _ _ _ Try.underlying29 Try.infoInt 302 rfl rfl (by omega) (by unfold maxLen; omega) ?_; intro gc w' M'; (try simp only [Act.put, List.setIfInBounds_toArray, List.set_cons_zero, List.set_cons_succ, List.drop_succ_cons, List.drop_zero, List.take_succ_cons, List.take_zero, putAt, ints_set, ints_push] at M'); replace M := Lib.hid M'; clear M'; (try simp only [Act.put, List.setIfInBounds_toArray, List.set_cons_zero, List.set_cons_succ, List.drop_succ_cons, List.drop_zero, List.take_succ_cons, List.take_zero, putAt, ints_set, ints_push])))
  have e0 : (madeCells (Value.int .i64 0).cells (302 * 1)).toList = ints (cntOf []) := by show (madeCells #[.int .i64 0] 302).toList = _; rw [toList_madeCells_one, cnt_nil]; simp [ints]
  rw [e0] at M
  clear e0
  go_loopw [7] (fun i wr => ∃ (k : Nat), k ≤ took.length ∧ i = .int .i64 k ∧ Mine w1 wr [.row 3 1 (some ⟨gc, 0, none⟩) 302 302 (ints (cntOf ((took.take k).map (·.item)))), .box gd 42 #[.int .i64 top, .int .i64 bottom, .int .i64 next, .slice AI nI cI, .int .i64 ph, .int .i64 ob, .int .i64 ot, .slice AT nT cT, .slice AK took.length cK], .row 3 1 AI nI cI (ints items), .row 67 4 AT nT cT (th.flatMap Thief.cells), .row 57 2 AK took.length cK (took.flatMap Taken.cells)]) (fun i _ => took.length - (intOf i).toNat)
  case atStart => exact ⟨0, Nat.zero_le _, rfl, M.out⟩
  case round =>
    clear M
    obtain ⟨k, hk, rfl, M1⟩ := hrel
    have M := Lib.hid M1
    clear M1
    by_cases hlt : (k : Int) < (took.length : Int)
    · skip
      obtain ⟨bK, oK, x, rfl, hx, c0, c1⟩ := took_at (M.out.row_sl 4 rfl) (k := k) (by omega)
      have HX := Lib.hid hx
      obtain ⟨hxr, hxn⟩ := HON.out.at_ (k := k) (x := x.item) (by rw [List.getElem?_append_left (by simp; omega), List.getElem?_map, hx]; rfl)
      rw [List.take_append_of_le_length (by simp; omega), ← List.map_take] at hxn
      obtain ⟨hw0, hw1⟩ := HWHO.out x (List.mem_of_getElem? hx)
      obtain ⟨who, item⟩ := x
      simp only at c0 c1 hxr hxn hw0 hw1
      obtain ⟨X, rfl⟩ : ∃ X : Nat, item = (X : Int) := ⟨item.toNat, by omega⟩
      have cx := (M.out.row_at 0 rfl).cellAt X (by omega)
      rw [cnt_get (by omega), if_neg hxn] at cx
      have q2 := (M.out.box_at 1 rfl).cell 2
      simp only [List.getElem?_toArray, List.getElem?_cons_zero, List.getElem?_cons_succ] at q2
      have q8 := (M.out.box_at 1 rfl).cell 8
      simp only [List.getElem?_toArray, List.getElem?_cons_zero, List.getElem?_cons_succ] at q8
      have b1 : decide ((X : Int) < 1) = false := decide_eq_false (by omega)
      have b2 : decide (next ≤ (X : Int)) = false := decide_eq_false (by omega)
      have b3 : decide ((302 : Int) ≤ (X : Int)) = false := decide_eq_false (by omega)
      have b5 : decide (who < 0) = false := decide_eq_false (by omega)
      have b6 : decide ((nT : Int) < who) = false := decide_eq_false (by omega)
      have hX : X < 302 := by omega
      have HK1 : Hid (k + 1 ≤ took.length) := by show _ ≤ _; omega
      clear hxn hx hw0 hw1
      go_wp2_with (first | (refine Mine.wp_put M.out rfl _ _ _ rfl rfl 0 _ rfl rfl _ (by (conv => lhs; whnf) <;> rfl) (by omega) (by rfl) (by kernel_rfl) ?_; intro w' M'; (try simp only [Act.put, List.setIfInBounds_toArray, List.set_cons_zero, List.set_cons_succ, List.drop_succ_cons, List.drop_zero, List.take_succ_cons, List.take_zero, putAt, ints_set, ints_push] at M'); replace M := Lib.hid M'; clear M'))
      go_roundw
      case rel => exact ⟨k + 1, HK1.out, by go_num, by rw [items_take HX.out, ← cnt_set hX]; exact M.out⟩
      case measure => have := HK1.out; simp [intOf]; omega
    have ek : k = took.length := by omega
    subst ek
    rw [List.take_length] at M
    have q0 := (M.out.box_at 1 rfl).cell 0
    simp only [List.getElem?_toArray, List.getElem?_cons_zero, List.getElem?_cons_succ] at q0
    have q1 := (M.out.box_at 1 rfl).cell 1
    simp only [List.getElem?_toArray, List.getElem?_cons_zero, List.getElem?_cons_succ] at q1
    have q2 := (M.out.box_at 1 rfl).cell 2
    simp only [List.getElem?_toArray, List.getElem?_cons_zero, List.getElem?_cons_succ] at q2
    have q3 := (M.out.box_at 1 rfl).cell 3
    simp only [List.getElem?_toArray, List.getElem?_cons_zero, List.getElem?_cons_succ] at q3
    have q4 := (M.out.box_at 1 rfl).cell 4
    simp only [List.getElem?_toArray, List.getElem?_cons_zero, List.getElem?_cons_succ] at q4
    have q5 := (M.out.box_at 1 rfl).cell 5
    simp only [List.getElem?_toArray, List.getElem?_cons_zero, List.getElem?_cons_succ] at q5
    have q6 := (M.out.box_at 1 rfl).cell 6
    simp only [List.getElem?_toArray, List.getElem?_cons_zero, List.getElem?_cons_succ] at q6
    have q7 := (M.out.box_at 1 rfl).cell 7
    simp only [List.getElem?_toArray, List.getElem?_cons_zero, List.getElem?_cons_succ] at q7
    have q8 := (M.out.box_at 1 rfl).cell 8
    simp only [List.getElem?_toArray, List.getElem?_cons_zero, List.getElem?_cons_succ] at q8
    have b1 : decide (next < 1) = false := decide_eq_false (by omega)
    have b2 : decide ((302 : Int) < next) = false := decide_eq_false (by omega)
    have b3 : ((nT : Int) != (nT : Int)) = false := by simp
    have hIl : items.length ≤ 40 := hvb.2.2
    go_wp2_with fail
    refine (impl_DqRest top bottom next ph ob ot AI nI cI items AT nT cT th AK took.length cK took _ _ (M.out.row_sl 2 rfl) (by omega) _ (M.out.row_sl 3 rfl) (by omega) _ (M.out.row_sl 4 rfl) (by omega)).mono ?_
    rintro e w4 ⟨rfl, x4⟩
    replace M := Lib.hid (M.out.on x4)
    clear x4 q0 q1 q2 q3 q4 q5 q6 q7 q8 b1 b2 b3
    cases hr : dqRest ph th
    · go_wp2
      go_ret
      exact ⟨rfl, X1.out.tr M.out.ext⟩
    have HL := Lib.hid (HLL.out (rest_phase hr))
    have hph := Lib.hid (rest_phase hr)
    clear hr
    have q0 := (M.out.box_at 1 rfl).cell 0
    simp only [List.getElem?_toArray, List.getElem?_cons_zero, List.getElem?_cons_succ] at q0
    have q1 := (M.out.box_at 1 rfl).cell 1
    simp only [List.getElem?_toArray, List.getElem?_cons_zero, List.getElem?_cons_succ] at q1
    have q2 := (M.out.box_at 1 rfl).cell 2
    simp only [List.getElem?_toArray, List.getElem?_cons_zero, List.getElem?_cons_succ] at q2
    have q3 := (M.out.box_at 1 rfl).cell 3
    simp only [List.getElem?_toArray, List.getElem?_cons_zero, List.getElem?_cons_succ] at q3
    have q4 := (M.out.box_at 1 rfl).cell 4
    simp only [List.getElem?_toArray, List.getElem?_cons_zero, List.getElem?_cons_succ] at q4
    have q5 := (M.out.box_at 1 rfl).cell 5
    simp only [List.getElem?_toArray, List.getElem?_cons_zero, List.getElem?_cons_succ] at q5
    have q6 := (M.out.box_at 1 rfl).cell 6
    simp only [List.getElem?_toArray, List.getElem?_cons_zero, List.getElem?_cons_succ] at q6
    have q7 := (M.out.box_at 1 rfl).cell 7
    simp only [List.getElem?_toArray, List.getElem?_cons_zero, List.getElem?_cons_succ] at q7
    have q8 := (M.out.box_at 1 rfl).cell 8
    simp only [List.getElem?_toArray, List.getElem?_cons_zero, List.getElem?_cons_succ] at q8
    go_wp2_with fail
    refine (impl_DqLeft top bottom next ph ob ot AI nI cI items AT nT cT th AK took.length cK took _ _ (M.out.row_sl 2 rfl) (by omega) _ (M.out.row_sl 3 rfl) (by omega) _ (M.out.row_sl 4 rfl) (by omega)).mono ?_
    rintro e w5 ⟨B5, m5, d5, rfl, own5, x5⟩
    replace M := Lib.hid (M.out.own own5 x5)
    clear own5 x5 q0 q1 q2 q3 q4 q5 q6 q7 q8
    rw [← HL.out] at M
    generalize hlv : Dq.live _ = L at M HL
    have hon := HON.out
    rw [hlv] at hon
    have HO2 := Lib.hid hon
    clear hlv HON HLL hon
    have hlL := M.out.len1 0 rfl
    rw [ints_length] at hlL
    have hlen := HO2.out.len
    rw [List.length_append, List.length_map] at hlen
    go_wp2
    go_loopw [10] (fun i wr => ∃ (j : Nat), j ≤ m5 ∧ i = .int .i64 j ∧ Mine w1 wr [.row 3 1 B5 m5 d5 (ints L), .row 3 1 (some ⟨gc, 0, none⟩) 302 302 (ints (cntOf (took.map (·.item) ++ L.take j))), .box gd 42 #[.int .i64 top, .int .i64 bottom, .int .i64 next, .slice AI nI cI, .int .i64 ph, .int .i64 ob, .int .i64 ot, .slice AT nT cT, .slice AK took.length cK], .row 3 1 AI nI cI (ints items), .row 67 4 AT nT cT (th.flatMap Thief.cells), .row 57 2 AK took.length cK (took.flatMap Taken.cells)]) (fun i _ => m5 - (intOf i).toNat)
    case atStart => exact ⟨0, Nat.zero_le _, rfl, by rw [List.take_zero, List.append_nil]; exact M.out⟩
    case round =>
      clear M
      obtain ⟨j, hj, rfl, M1⟩ := hrel
      have M := Lib.hid M1
      clear M1
      by_cases hlt : (j : Int) < (m5 : Int)
      · skip
        obtain ⟨g5, rfl⟩ := M.out.addr 0 rfl (by omega)
        have hy : L[j]? = some L[j] := List.getElem?_eq_getElem (by omega)
        generalize L[j]'(by omega) = y at hy
        have HY := Lib.hid hy
        have c5 := (M.out.row_at 0 rfl).cellAt j (by omega)
        rw [ints_get, hy] at c5
        simp only [Option.map_some] at c5
        obtain ⟨hyr, hyn⟩ := HO2.out.at_ (k := took.length + j) (x := y) (by rw [List.getElem?_append_right (by simp), List.length_map, Nat.add_sub_cancel_left]; exact hy)
        rw [show (took.map (·.item) ++ L).take (took.length + j) = took.map (·.item) ++ L.take j by rw [List.take_append, List.take_of_length_le (by simp), List.length_map, Nat.add_sub_cancel_left]] at hyn
        obtain ⟨Y, rfl⟩ : ∃ Y : Nat, y = (Y : Int) := ⟨y.toNat, by omega⟩
        have cy := (M.out.row_at 1 rfl).cellAt Y (by omega)
        rw [cnt_get (by omega), if_neg hyn] at cy
        have q2 := (M.out.box_at 2 rfl).cell 2
        simp only [List.getElem?_toArray, List.getElem?_cons_zero, List.getElem?_cons_succ] at q2
        have b1 : decide ((Y : Int) < 1) = false := decide_eq_false (by omega)
        have b2 : decide (next ≤ (Y : Int)) = false := decide_eq_false (by omega)
        have hY : Y < 302 := by omega
        have HJ1 : Hid (j + 1 ≤ m5) := by show _ ≤ _; omega
        clear hyn hy
        go_wp2
        go_quiet (fail)
        replace M := Lib.hid (M.out.drN nq)
        go_wp2_with (first | (refine Mine.wp_put M.out rfl _ _ _ rfl rfl 1 _ rfl rfl _ (by (conv => lhs; whnf) <;> rfl) (by omega) (by rfl) (by kernel_rfl) ?_; intro w' M'; (try simp only [Act.put, List.setIfInBounds_toArray, List.set_cons_zero, List.set_cons_succ, List.drop_succ_cons, List.drop_zero, List.take_succ_cons, List.take_zero, putAt, ints_set, ints_push] at M'); replace M := Lib.hid M'; clear M'))
        go_roundw
        case rel => exact ⟨j + 1, HJ1.out, by go_num, by rw [List.take_add_one, HY.out, ← List.append_assoc]; show Mine _ _ (_ :: .row _ _ _ _ _ (ints (cntOf (_ ++ [(Y : Int)]))) :: _); rw [← cnt_set hY]; exact M.out⟩
        case measure => have := HJ1.out; simp [intOf]; omega
      have ej : j = m5 := by omega
      subst ej
      have q2 := (M.out.box_at 2 rfl).cell 2
      simp only [List.getElem?_toArray, List.getElem?_cons_zero, List.getElem?_cons_succ] at q2
      have q8 := (M.out.box_at 2 rfl).cell 8
      simp only [List.getElem?_toArray, List.getElem?_cons_zero, List.getElem?_cons_succ] at q8
      have b1 : ((took.length : Int) + (j : Int) == next - 1) = true := by simp; omega
      go_wp2
      go_ret
      exact ⟨rfl, X1.out.tr M.out.ext⟩
end Go.Proofs.Ytkkcgpoakhllkaa
