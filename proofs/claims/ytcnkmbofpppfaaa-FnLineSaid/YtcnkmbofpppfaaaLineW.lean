/- The contract of laws.FnLine. No condition. -/
import Derived.Test.YtcnkmbofpppfaaaLineDA
import Derived.Test.YtcnkmbofpppfaaaLineQ
import Derived.Test.YtcnkmbofpppfaaaOpenB
namespace Go.Proofs.Ytcnkmbofpppfaaa
open Go.RowKit Go.Deep
set_option linter.unusedSimpArgs false
set_option linter.unusedVariables false

theorem big_any (A : Option Addr) (n c : Nat) (w : World) : Calls Try.prog 31 #[.slice A n c] w fun e w' => e = .returned (.bool (decide ((1048576 : Int) < (n : Int)))) ∧ w = w' := by
  go_enter Try.func31, Try.ntmps31
  go_wp2
  go_ret
  exact ⟨rfl, rfl⟩
theorem big_yes (A : Option Addr) (n c : Nat) (w : World) (h : Hid ((1048576 : Int) < (n : Int))) : Calls Try.prog 31 #[.slice A n c] w fun e w' => e = .returned (.bool true) ∧ w = w' := by
  refine (big_any A n c w).mono ?_
  rintro e w' ⟨rfl, rfl⟩
  rw [decide_eq_true h.out]
  exact ⟨rfl, rfl⟩
theorem big_no (A : Option Addr) (n c : Nat) (w : World) (h : Hid (¬ (1048576 : Int) < (n : Int))) : Calls Try.prog 31 #[.slice A n c] w fun e w' => e = .returned (.bool false) ∧ w = w' := by
  refine (big_any A n c w).mono ?_
  rintro e w' ⟨rfl, rfl⟩
  rw [decide_eq_false h.out]
  exact ⟨rfl, rfl⟩
theorem Sl.low {w : World} {S : Nat → Prop} {size n : Nat} {A : Option Addr} {xs : List Value} (h : Sl w S size A n xs) : Sl w (fun j => j < w.heap.size) size A n xs :=
  ⟨h.1, fun hn => by obtain ⟨b, o, e, _, hb, hc⟩ := h.2 hn; exact ⟨b, o, e, hb, hb, hc⟩⟩
set_option maxHeartbeats 400000 in
theorem sameInts_same (A B : Option Addr) (n c d : Nat) (zs : List Int) (w : World) (S T : Nat → Prop) (ha : Sl w S 1 A n (ints zs)) (hb : Sl w T 1 B n (ints zs)) (hm : n ≤ 9223372036854775807) :
    Calls Try.prog 35 #[.slice A n c, .slice B n d] w fun e w' => e = .returned (.bool true) ∧ Ext w w' := by
  go_enter Try.func35, Try.ntmps35
  go_wp2
  go_loopw [5] (fun i wr => ∃ (k : Nat), k ≤ n ∧ i = .int .i64 k ∧ Ext w wr) (fun i _ => n - (intOf i).toNat)
  case atStart => exact ⟨0, Nat.zero_le _, rfl, Ext.refl' _⟩
  case round =>
    obtain ⟨k, hk, rfl, hx⟩ := hrel
    by_cases hlt : k < n
    · obtain ⟨b1, o1, x, rfl, hb1, hxk, hc1⟩ := (ha.ext hx).int_at hlt
      obtain ⟨b2, o2, y, rfl, hb2, hyk, hc2⟩ := (hb.ext hx).int_at hlt
      rw [hxk] at hyk
      injection hyk with hyk
      subst hyk
      have HE2 := Lib.hid hx
      clear hxk hx
      go_wp2
      go_quiet (fail)
      go_wp2
      go_roundw
      case rel => exact ⟨k + 1, by omega, by go_num, HE2.out.drN _⟩
      case measure => simp [intOf]; omega
    · go_wp2
      go_ret
      exact ⟨rfl, hx⟩
set_option maxHeartbeats 400000 in
theorem has_any (A : Option Addr) (n c : Nat) (zs : List Int) (x : Int) (w : World) (S : Nat → Prop) (hs : Sl w S 1 A n (ints zs)) (hm : n ≤ 9223372036854775807) :
    Calls Try.prog 33 #[.slice A n c, .int .i64 x] w fun e w' => e = .returned (.bool (dec (x ∈ zs))) ∧ w = w' := by
  have H := Lib.hid hs.len
  go_enter Try.func33, Try.ntmps33
  go_wp2
  go_loop [5] (fun i => ∃ (k : Nat), k ≤ n ∧ i = .int .i64 k ∧ Hid (∀ i, i < k → zs[i]? ≠ some x)) (fun i => n - (intOf i).toNat)
  case atStart => exact ⟨0, Nat.zero_le _, rfl, fun _ h => absurd h (Nat.not_lt_zero _)⟩
  case round =>
    obtain ⟨k, hk, rfl, hno⟩ := hrel
    by_cases hlt : k < n
    · obtain ⟨b, o, z, rfl, hb, hz, hc⟩ := hs.int_at hlt
      have HZ := Lib.hid hz
      clear hz hs
      by_cases h : z = x
      · have b0 : (z == x) = true := by simpa using h
        have HH := Lib.hid h
        clear h
        go_wp2
        go_ret
        exact ⟨by rw [dec_yes (List.mem_of_getElem? (HZ.out.trans (congrArg some HH.out)))]; rfl, rfl⟩
      have b0 : (z == x) = false := by simpa using h
      have HH := Lib.hid h
      clear h
      go_wp2
      go_round
      case rel =>
        refine ⟨k + 1, by omega, by go_num, fun i hi => ?_⟩
        by_cases e : i = k
        · subst e; rw [HZ.out]; intro q; injection q with q; exact HH.out q
        · exact hno.out i (by omega)
      case measure => simp [intOf]; omega
    · clear hs
      go_wp2
      go_ret
      have hno2 : ¬ x ∈ zs := by
        intro hm
        obtain ⟨i, hi⟩ := List.mem_iff_getElem?.1 hm
        have := (List.getElem?_eq_some_iff.1 hi).1
        have hl := H.out
        exact hno.out i (by omega) hi
      exact ⟨by rw [dec_no hno2]; rfl, rfl⟩
/-- 's[:k]' of a slice. -/
theorem byte_at {w : World} {S : Nat → Prop} {A : Option Addr} {n k : Nat} {bs : List UInt8} (hs : Sl w S 1 A n (charsD bs)) (hk : k < n) : ∃ b o x, A = some ⟨b, o, none⟩ ∧ (0 ≤ x ∧ x ≤ 255) ∧ w.cell? ⟨b, o + k, none⟩ = some (.int .u8 x) := by
  obtain ⟨b, o, e, _, hb, hc⟩ := hs.2 (by omega)
  obtain ⟨u, hu⟩ : ∃ u, bs[k]? = some u := ⟨_, List.getElem?_eq_getElem (by have h := hs.1; simp [charsD] at h; omega)⟩
  have hcj := hc k (by omega)
  have := u.toNat_lt
  exact ⟨b, o, (u.toNat : Int), e, ⟨by omega, by omega⟩, by rw [hcj]; simp [charsD, hu]⟩
set_option maxHeartbeats 1000000 in
theorem at_any (A : Option Addr) (n c : Nat) (bs : List UInt8) (k : Nat) (hk : (k : Int) ≤ 1000) (w : World) (S : Nat → Prop) (hs : Sl w S 1 A n (charsD bs)) (hn : n ≤ 1048576) :
    Calls Try.prog 34 #[.slice A n c, .int .i64 (k : Int)] w fun e w' => ∃ x : Int, e = .returned (.int .i64 x) ∧ (0 ≤ x ∧ x ≤ 255) ∧ w = w' := by
  by_cases h : (k : Int) < (n : Int)
  · obtain ⟨b, o, x, rfl, hx, k0⟩ := byte_at hs (k := k) (by omega)
    have hx0 := hx.1
    have hx1 := hx.2
    clear hs hx
    go_enter Try.func34, Try.ntmps34
    go_wp2
    go_ret
    exact ⟨_, rfl, by omega, rfl⟩
  · clear hs
    have hnI : (n : Int) ≤ 1048576 := by omega
    have hk0 : (0 : Int) ≤ (k : Int) := by omega
    go_enter Try.func34, Try.ntmps34
    go_wp2
    go_ret
    exact ⟨_, rfl, by omega, rfl⟩
theorem len_zero {n : Nat} {b : Bool} (h : decide (0 < n) = b) : decide ((0 : Int) < (n : Int)) = b := by
  rw [← h]
  have : ((0 : Int) < (n : Int)) ↔ 0 < n := by omega
  exact decide_eq_decide.2 this
theorem one_lit (w : World) (x : Int) : (w.alloc (.cells #[.int .i64 x] 3)).ownsRow w.heap.size 3 1 (.slice (some ⟨w.heap.size, 0, none⟩) 1 1) 1 (ints [x]) :=
  World.ownsRow_lit w #[.int .i64 x] 1 (Nat.le_refl _) (by unfold maxLen; omega) rfl

set_option maxRecDepth 100000 in
set_option maxHeartbeats 32000000 in
theorem law_FnLine (A : Option Addr) (n c : Nat) (bs : List UInt8) (w : World) (hs : Sl w (fun _ => True) 1 A n (charsD bs)) :
    Calls Try.prog 9 #[.slice A n c] w fun e w' => e = .returned (.bool true) ∧ Ext w w' := by
  by_cases hb : (1048576 : Int) < (n : Int)
  · have HG := Lib.hid hb
    clear hb
    go_enter Try.func9, Try.ntmps9
    go_wp2_with (go_at_call 31; refine (big_yes _ _ _ _ HG).mono ?_; rintro e w' ⟨rfl, rfl⟩)
    go_ret
    exact ⟨rfl, Ext.refl' _⟩
  have HG := Lib.hid hb
  have HS := Lib.hid hs
  have HB : Hid (n ≤ 1048576) := by have h := HG.out; show n ≤ _; omega
  clear hb hs
  go_enter Try.func9, Try.ntmps9
  go_wp2_with (go_at_call 31; refine (big_no _ _ _ _ HG).mono ?_; rintro e w' ⟨rfl, rfl⟩)
  refine (DrawLineOrder_any w HS.out.low HB.out).mono ?_
  rintro e w1 ⟨V, B, m, d, l, rfl, hm8, M1⟩
  have M := Lib.hid M1
  clear M1
  have hl : Hid (l.length = m) := by have h := M.out.len 0 rfl; rw [flat_length Call.cells_length] at h; show _ = _; omega
  obtain ⟨⟨ord, is⟩, hR⟩ : ∃ R, lineO V l = R := ⟨_, rfl⟩
  have HF := Lib.hid (lineO_fits (v := V) (l := l))
  have HE1 := Lib.hid (lineE_some V l)
  have HOL := Lib.hid (lineO_len V l)
  rw [hR] at HF HE1 HOL
  simp only at HF HE1 HOL
  have HR := Lib.hid hR
  clear hR
  go_wp2_with fail
  refine (impl_LineOrder V B m d l _ _ (M.out.row_sl 0 rfl) (by omega)).mono ?_
  rintro e w2 ⟨B2, m2, d2, rfl, o2, x2⟩
  rw [HR.out] at o2 ⊢
  replace M := Lib.hid (M.out.own o2 x2)
  clear o2 x2
  simp only at M ⊢
  have hm2 : m2 ≤ 7 := by have h := M.out.len1 0 rfl; rw [ints_length] at h; have := HOL.out; omega
  have hol : Hid (ord.length = m2) := by have h := M.out.len1 0 rfl; rw [ints_length] at h; exact h
  go_wp2_with fail
  refine (spec_LineOrder V B m d l _ _ (M.out.row_sl 1 rfl) (by omega)).mono ?_
  rintro e w3 ⟨B3, m3, d3, rfl, o3, x3⟩
  rw [HR.out]
  replace M := Lib.hid (M.out.on x3)
  clear o3 x3
  simp only
  cases is
  · skip
    go_wp2_with fail
    refine (impl_LineEnds V B m d l _ _ (M.out.row_sl 1 rfl) (by omega)).mono ?_
    rintro e w4 ⟨B4, m4, d4, rfl, o4, x4⟩
    replace M := Lib.hid (M.out.own o4 x4)
    clear o4 x4
    have hm4 : (lineE V l).length = m4 := by have h := M.out.len1 0 rfl; rw [ints_length] at h; exact h
    have he4 := len_zero HE1.out
    rw [hm4] at he4
    have HM4 := Lib.hid hm4
    clear hm4
    have he5 : ¬ (0 : Int) < (m4 : Int) := of_decide_eq_false he4
    obtain rfl : m4 = 0 := by omega
    clear HF he4 he5
    go_wp2
    go_loopw [10, 11] (fun nw i wr => ∃ X : Int, nw = .int .i64 X ∧ i = .int .i64 0 ∧ Hid (Mine w wr (.row 3 1 B4 0 d4 (ints (lineE V l)) :: .row 3 1 B2 m2 d2 (ints ord) :: .row 26 5 B m d (l.flatMap Call.cells) :: []))) (fun _ i _ => 0)
    case atStart => exact ⟨V, rfl, rfl, M⟩
    case round =>
      clear M
      obtain ⟨X, rfl, rfl, M⟩ := hrel
      go_wp2
      replace M := Lib.hid (M.out.own (own_emptyCl _) ((Ext.refl' _).al _))
      generalize hfr : (Res.row 3 1 B4 0 d4 (ints (lineE V l)) :: Res.row 3 1 B2 m2 d2 (ints ord) :: Res.row 26 5 B m d (l.flatMap Call.cells) :: []) = fr at M
      clear hfr
      go_loopw [14, 15, 16] (fun u wv i wr => ∃ (k dt : Nat) (Bt : Option Addr) (tl : List Call) (W : Int), k ≤ 7 ∧ u = .slice Bt k dt ∧ wv = .int .i64 W ∧ i = .int .i64 k ∧ Hid (Turn tl W) ∧ Hid (tl.length = k) ∧ Hid (Mine w wr (.row 26 5 Bt k dt (tl.flatMap Call.cells) :: fr))) (fun _ _ i _ => 7 - (intOf i).toNat)
      case atStart => exact ⟨0, _, _, [], 0, by omega, rfl, rfl, rfl, Turn.nil, rfl, M⟩
      case round =>
        clear M
        obtain ⟨k, dt, Bt, tl, W, hk7, rfl, rfl, rfl, HT, HL, M⟩ := hrel
        by_cases hgo : (k : Int) < (m : Int) ∧ (k : Int) < 7
        rotate_left
        · have hcase : ¬ (k : Int) < (m : Int) ∨ ((k : Int) < (m : Int) ∧ ¬ (k : Int) < 7) := by omega
          clear hgo
          rcases hcase with h1 | ⟨h1, h2⟩
          all_goals
            go_wp2_with fail
            refine (impl_LineOrder 0 Bt k dt tl _ _ (M.out.row_sl 0 rfl) (by omega)).mono ?_
            rintro e w5 ⟨B5, m5, d5, rfl, o5, x5⟩
            rw [HT.out.order (by rw [HL.out]; exact hk7)] at o5 ⊢
            simp only at o5 ⊢
            have hm5 : m5 = k := by have h := o5.1; rw [ints_length, nz_length, List.length_range, HL.out] at h; omega
            subst hm5
            replace M := Lib.hid (M.out.on x5)
            clear o5 x5
            go_wp2_with fail
            refine (impl_LineEnds 0 Bt m5 dt tl _ _ (M.out.row_sl 0 rfl) (by omega)).mono ?_
            rintro e w6 ⟨B6, m6, d6, rfl, o6, x6⟩
            rw [HT.out.ends (by rw [HL.out]; exact hk7)] at o6
            have hm6 : m6 = 1 := by have h := o6.1; rw [ints_length] at h; simpa using h.symm
            subst hm6
            replace M := Lib.hid (M.out.own o6 x6)
            clear o6 x6
            go_wp2_with (go_at_call 35; have MN := M.out.own (one_lit _ W) ((Ext.refl' _).al _); (with_reducible refine (sameInts_same _ _ _ _ _ [W] _ (fun _ => True) (fun _ => True) (MN.row_sl 1 rfl) (MN.row_sl 0 rfl) (by omega)).mono ?_); rintro e w7 ⟨rfl, x7⟩; replace M := Lib.hid (MN.on x7); clear MN x7)
            go_ret
            exact ⟨rfl, M.out.ext⟩
        obtain ⟨hgo1, hgo2⟩ := hgo
        have HK : Hid (k < 7) := by show _ < _; omega
        have hk0 : (0 : Int) ≤ (k : Int) := by omega
        go_wp2_with fail
        refine (at_any A n c bs k (by omega) _ _ (HS.out.ext M.out.ext) HB.out).mono ?_
        rintro e w5 ⟨y1, rfl, ⟨y10, y11⟩, rfl⟩
        go_wp2_with fail
        refine (at_any A n c bs (k + 9) (by omega) _ _ (HS.out.ext M.out.ext) HB.out).mono ?_
        rintro e w5 ⟨y2, rfl, ⟨y20, y21⟩, rfl⟩
        go_wp2_with (first | (at_builtin; refine Mine.wp_push M.out rfl _ _ 32 rfl 26 _ _ _ Try.underlying32 Try.infoCall rfl (by omega) 1 rfl rfl _ _ rfl rfl rfl (by simp [Value.oneCell']) (by omega) (by unfold maxLen; omega) ?_; intro A2 c2 w' M'; (try simp only [Act.put, List.setIfInBounds_toArray, List.set_cons_zero, List.set_cons_succ, List.drop_succ_cons, List.drop_zero, List.take_succ_cons, List.take_zero, putAt, ints_set, ints_push, List.getElem_toArray, List.getElem_cons_zero, List.getElem_cons_succ] at M'); replace M := Lib.hid M'; clear M') | ((with_reducible show wpList _ _ _ (⟨_, _, _, _, _, none⟩ :: _) _ _); first | (refine Mine.wp_alloc M.out rfl 26 rfl (.agg #[.int .i64 0, .int .i64 0, .int .i64 0, .int .i64 0, .int .i64 0]) (by kernel_rfl) ?_; intro gx w' M'; (try simp only [Value.cells, Act.put, List.setIfInBounds_toArray, List.set_cons_zero, List.set_cons_succ, List.drop_succ_cons, List.drop_zero, List.take_succ_cons, List.take_zero, putAt, ints_set, ints_push, List.getElem_toArray, List.getElem_cons_zero, List.getElem_cons_succ] at M'); replace M := Lib.hid M'; clear M'; (try simp only [Act.put, List.setIfInBounds_toArray, List.set_cons_zero, List.set_cons_succ, List.drop_succ_cons, List.drop_zero, List.take_succ_cons, List.take_zero, putAt, ints_set, ints_push, List.getElem_toArray, List.getElem_cons_zero, List.getElem_cons_succ])) | (refine Mine.wp_sets M.out rfl 26 _ _ rfl rfl 0 _ rfl rfl _ rfl (Nat.le_of_ble_eq_true rfl) (by simp [Value.oneCell']) (by kernel_rfl) ?_; intro w' M'; (try simp only [Act.put, List.setIfInBounds_toArray, List.set_cons_zero, List.set_cons_succ, List.drop_succ_cons, List.drop_zero, List.take_succ_cons, List.take_zero, putAt, ints_set, ints_push, List.getElem_toArray, List.getElem_cons_zero, List.getElem_cons_succ] at M'); replace M := Lib.hid M'; clear M') | (refine Mine.wp_get M.out rfl _ _ rfl 0 _ rfl rfl _ rfl _ (by first | exact Try.underlying3) (by rfl) ?_; (try simp only [Act.put, List.setIfInBounds_toArray, List.set_cons_zero, List.set_cons_succ, List.drop_succ_cons, List.drop_zero, List.take_succ_cons, List.take_zero, putAt, ints_set, ints_push, List.getElem_toArray, List.getElem_cons_zero, List.getElem_cons_succ])) | (refine Mine.wp_set M.out rfl _ _ _ rfl rfl 0 _ rfl rfl _ (by (conv => lhs; whnf) <;> rfl) (Nat.le_of_ble_eq_true rfl) (by rfl) (by kernel_rfl) ?_; intro w' M'; (try simp only [Act.put, List.setIfInBounds_toArray, List.set_cons_zero, List.set_cons_succ, List.drop_succ_cons, List.drop_zero, List.take_succ_cons, List.take_zero, putAt, ints_set, ints_push, List.getElem_toArray, List.getElem_cons_zero, List.getElem_cons_succ] at M'); replace M := Lib.hid M'; clear M') | (refine Mine.wp_gets M.out rfl 26 _ rfl 0 _ 5 rfl rfl (Nat.le_of_ble_eq_true rfl) _ Try.underlying26 (by rfl) (by kernel_rfl) ?_; (try simp only [Act.put, List.setIfInBounds_toArray, List.set_cons_zero, List.set_cons_succ, List.drop_succ_cons, List.drop_zero, List.take_succ_cons, List.take_zero, putAt, ints_set, ints_push, List.getElem_toArray, List.getElem_cons_zero, List.getElem_cons_succ]))))
        refine (spec_CallDo W _ _ _ _ _ _).mono ?_
        rintro e w6 ⟨rfl, x6⟩
        replace M := Lib.hid (M.out.on x6)
        clear x6
        have HT2 := Lib.hid (HT.out.push (k := 1 + y1 % 4) (a := y2) (by omega) (by omega))
        rw [HL.out] at HT2
        generalize callDo W (1 + y1 % 4) y2 = Y at HT2 ⊢
        obtain ⟨N2, R2⟩ := Y
        simp only at HT2 ⊢
        go_wp2_with (first | (at_builtin; refine Mine.wp_push M.out rfl _ _ 32 rfl 26 _ _ _ Try.underlying32 Try.infoCall rfl (by omega) 1 rfl rfl _ _ rfl rfl rfl (by simp [Value.oneCell']) (by omega) (by unfold maxLen; omega) ?_; intro A2 c2 w' M'; (try simp only [Act.put, List.setIfInBounds_toArray, List.set_cons_zero, List.set_cons_succ, List.drop_succ_cons, List.drop_zero, List.take_succ_cons, List.take_zero, putAt, ints_set, ints_push, List.getElem_toArray, List.getElem_cons_zero, List.getElem_cons_succ] at M'); replace M := Lib.hid M'; clear M') | ((with_reducible show wpList _ _ _ (⟨_, _, _, _, _, none⟩ :: _) _ _); first | (refine Mine.wp_alloc M.out rfl 26 rfl (.agg #[.int .i64 0, .int .i64 0, .int .i64 0, .int .i64 0, .int .i64 0]) (by kernel_rfl) ?_; intro gx w' M'; (try simp only [Value.cells, Act.put, List.setIfInBounds_toArray, List.set_cons_zero, List.set_cons_succ, List.drop_succ_cons, List.drop_zero, List.take_succ_cons, List.take_zero, putAt, ints_set, ints_push, List.getElem_toArray, List.getElem_cons_zero, List.getElem_cons_succ] at M'); replace M := Lib.hid M'; clear M'; (try simp only [Act.put, List.setIfInBounds_toArray, List.set_cons_zero, List.set_cons_succ, List.drop_succ_cons, List.drop_zero, List.take_succ_cons, List.take_zero, putAt, ints_set, ints_push, List.getElem_toArray, List.getElem_cons_zero, List.getElem_cons_succ])) | (refine Mine.wp_sets M.out rfl 26 _ _ rfl rfl 0 _ rfl rfl _ rfl (Nat.le_of_ble_eq_true rfl) (by simp [Value.oneCell']) (by kernel_rfl) ?_; intro w' M'; (try simp only [Act.put, List.setIfInBounds_toArray, List.set_cons_zero, List.set_cons_succ, List.drop_succ_cons, List.drop_zero, List.take_succ_cons, List.take_zero, putAt, ints_set, ints_push, List.getElem_toArray, List.getElem_cons_zero, List.getElem_cons_succ] at M'); replace M := Lib.hid M'; clear M') | (refine Mine.wp_get M.out rfl _ _ rfl 0 _ rfl rfl _ rfl _ (by first | exact Try.underlying3) (by rfl) ?_; (try simp only [Act.put, List.setIfInBounds_toArray, List.set_cons_zero, List.set_cons_succ, List.drop_succ_cons, List.drop_zero, List.take_succ_cons, List.take_zero, putAt, ints_set, ints_push, List.getElem_toArray, List.getElem_cons_zero, List.getElem_cons_succ])) | (refine Mine.wp_set M.out rfl _ _ _ rfl rfl 0 _ rfl rfl _ (by (conv => lhs; whnf) <;> rfl) (Nat.le_of_ble_eq_true rfl) (by rfl) (by kernel_rfl) ?_; intro w' M'; (try simp only [Act.put, List.setIfInBounds_toArray, List.set_cons_zero, List.set_cons_succ, List.drop_succ_cons, List.drop_zero, List.take_succ_cons, List.take_zero, putAt, ints_set, ints_push, List.getElem_toArray, List.getElem_cons_zero, List.getElem_cons_succ] at M'); replace M := Lib.hid M'; clear M') | (refine Mine.wp_gets M.out rfl 26 _ rfl 0 _ 5 rfl rfl (Nat.le_of_ble_eq_true rfl) _ Try.underlying26 (by rfl) (by kernel_rfl) ?_; (try simp only [Act.put, List.setIfInBounds_toArray, List.set_cons_zero, List.set_cons_succ, List.drop_succ_cons, List.drop_zero, List.take_succ_cons, List.take_zero, putAt, ints_set, ints_push, List.getElem_toArray, List.getElem_cons_zero, List.getElem_cons_succ]))))
        rw [calls_push] at M
        go_roundw
        case rel => exact ⟨k + 1, _, _, _, N2, HK.out, rfl, rfl, by go_num, HT2, by show List.length _ = _; rw [List.length_append, HL.out]; rfl, Lib.hid M.out.tail⟩
        case measure => have := HK.out; simp [intOf]; omega
  have HFF := Lib.hid (HF.out rfl).1
  obtain ⟨u, hu, hue⟩ := (HF.out rfl).2
  have HU := Lib.hid hu
  have HUE := Lib.hid hue
  clear hu hue HF
  go_wp2_with fail
  refine (spec_FitsOrder V B m d l B2 m2 d2 ord _ _ (M.out.row_sl 1 rfl) (by omega) _ (M.out.row_sl 0 rfl) (by omega) (own_cap (M.out.row_at 0 rfl))).mono ?_
  rintro e w4 ⟨rfl, x4⟩
  rw [HFF.out]
  replace M := Lib.hid (M.out.on x4)
  clear x4
  go_wp2_with fail
  refine (impl_FitsOrder V B m d l B2 m2 d2 ord _ _ (M.out.row_sl 1 rfl) (by omega) _ (M.out.row_sl 0 rfl) (by omega) (own_cap (M.out.row_at 0 rfl))).mono ?_
  rintro e w4 ⟨rfl, x4⟩
  rw [HFF.out]
  replace M := Lib.hid (M.out.on x4)
  clear x4
  go_wp2_with fail
  refine (impl_LineEnds V B m d l _ _ (M.out.row_sl 1 rfl) (by omega)).mono ?_
  rintro e w4 ⟨B4, m4, d4, rfl, o4, x4⟩
  replace M := Lib.hid (M.out.own o4 x4)
  clear o4 x4
  have hm4 : (lineE V l).length = m4 := by have h := M.out.len1 0 rfl; rw [ints_length] at h; exact h
  have he4 := len_zero HE1.out
  rw [hm4] at he4
  have HM4 := Lib.hid hm4
  clear hm4
  have he5 : (0 : Int) < (m4 : Int) := of_decide_eq_true he4
  have he6 : 0 < m4 := by omega
  clear he4
  go_wp2
  clear he5 he6
  go_loopw [10, 11] (fun nw i wr => ∃ (k : Nat) (X : Int), k ≤ m2 ∧ nw = .int .i64 X ∧ i = .int .i64 k ∧ Hid (fit l ord V k = some X) ∧ Hid (Mine w wr (.row 3 1 B4 m4 d4 (ints (lineE V l)) :: .row 3 1 B2 m2 d2 (ints ord) :: .row 26 5 B m d (l.flatMap Call.cells) :: []))) (fun _ i _ => m2 - (intOf i).toNat)
  case atStart => exact ⟨0, V, Nat.zero_le _, rfl, rfl, rfl, M⟩
  case round =>
    clear M
    obtain ⟨k, X, hk, rfl, rfl, HX, M⟩ := hrel
    by_cases hlt : (k : Int) < (m2 : Int)
    · obtain ⟨j, hj, hjl⟩ : ∃ j : Nat, ord[k]? = some (j : Int) ∧ j < l.length := by
        have hol2 := hol.out
        have hp := (mayOk_perm (dec_true HFF.out).2.1).2
        have hk2 : k < ord.length := by omega
        obtain ⟨xn, e1, e2⟩ := perm_at hp (List.getElem?_eq_getElem hk2)
        exact ⟨xn, by rw [List.getElem?_eq_getElem hk2, e1], e2⟩
      have HK : Hid (k < m2) := by show _ < _; omega
      have hjm : (j : Int) < (m : Int) := by have := hl.out; omega
      have hj0 : (0 : Int) ≤ (j : Int) := by omega
      obtain ⟨bo, oo, z, rfl, hbo, hz, cz⟩ := (M.out.row_sl 1 rfl).int_at (k := k) (by omega)
      rw [hj] at hz
      injection hz with hz
      subst hz
      obtain ⟨bl, ol, x, rfl, hbl, hx, hcl⟩ := (M.out.row_sl 2 rfl).flat_at Call.cells_length (by omega) (k := j) (by omega)
      obtain ⟨x0, x1, x2, x3, x4⟩ := x
      have q0 := hcl 0 (by omega)
      have q1 := hcl 1 (by omega)
      have q2 := hcl 2 (by omega)
      have q3 := hcl 3 (by omega)
      have q4 := hcl 4 (by omega)
      simp only [Call.cells, List.getElem?_cons_zero, List.getElem?_cons_succ, Nat.add_zero] at q0 q1 q2 q3 q4
      have HXX := Lib.hid hx
      have HJ := Lib.hid hj
      clear hcl hx hj hjl
      go_wp2_with fail
      refine (impl_CallDo X x0 x1 x2 x3 x4 _).mono ?_
      rintro e w5 ⟨rfl, x5⟩
      replace M := Lib.hid (M.out.on x5)
      clear x5 q0 q1 q2 q3 q4 cz
      have HN : Hid (fit l ord V (k + 1) = some (callDo X x2 x3).1) := by
        show _ = _
        refine fit_yes HX.out HJ.out HXX.out ?_
        apply Classical.byContradiction
        intro q
        have h1 := fit_none (fit_no HX.out HJ.out HXX.out q) ord.length (by have := hol.out; have := HK.out; omega)
        rw [HU.out] at h1
        cases h1
      go_wp2
      go_roundw
      case rel => exact ⟨k + 1, _, HK.out, rfl, by go_num, HN, M⟩
      case measure => have := HK.out; simp [intOf]; omega
    obtain rfl : m2 = k := by omega
    have hXu : X = u := by have h := HX.out; have h2 := HU.out; rw [hol.out] at h2; rw [h2] at h; injection h with h; exact h.symm
    subst hXu
    skip
    go_wp2_with fail
    refine (has_any B4 m4 d4 (lineE V l) X _ _ (M.out.row_sl 0 rfl) (by have h1 := HM4.out; have h2 := lineE_len V l; omega)).mono ?_
    rintro e w5 ⟨rfl, rfl⟩
    rw [dec_yes HUE.out]
    clear hlt hk
    go_wp2
    replace M := Lib.hid (M.out.own (own_emptyCl _) ((Ext.refl' _).al _))
    generalize hfr : (Res.row 3 1 B4 m4 d4 (ints (lineE V l)) :: Res.row 3 1 B2 m2 d2 (ints ord) :: Res.row 26 5 B m d (l.flatMap Call.cells) :: []) = fr at M
    clear hfr
    go_loopw [14, 15, 16] (fun u wv i wr => ∃ (k dt : Nat) (Bt : Option Addr) (tl : List Call) (W : Int), k ≤ 7 ∧ u = .slice Bt k dt ∧ wv = .int .i64 W ∧ i = .int .i64 k ∧ Hid (Turn tl W) ∧ Hid (tl.length = k) ∧ Hid (Mine w wr (.row 26 5 Bt k dt (tl.flatMap Call.cells) :: fr))) (fun _ _ i _ => 7 - (intOf i).toNat)
    case atStart => exact ⟨0, _, _, [], 0, by omega, rfl, rfl, rfl, Turn.nil, rfl, M⟩
    case round =>
      clear M
      obtain ⟨k, dt, Bt, tl, W, hk7, rfl, rfl, rfl, HT, HL, M⟩ := hrel
      by_cases hgo : (k : Int) < (m : Int) ∧ (k : Int) < 7
      rotate_left
      · have hcase : ¬ (k : Int) < (m : Int) ∨ ((k : Int) < (m : Int) ∧ ¬ (k : Int) < 7) := by omega
        clear hgo
        rcases hcase with h1 | ⟨h1, h2⟩
        all_goals
          go_wp2_with fail
          refine (impl_LineOrder 0 Bt k dt tl _ _ (M.out.row_sl 0 rfl) (by omega)).mono ?_
          rintro e w5 ⟨B5, m5, d5, rfl, o5, x5⟩
          rw [HT.out.order (by rw [HL.out]; exact hk7)] at o5 ⊢
          simp only at o5 ⊢
          have hm5 : m5 = k := by have h := o5.1; rw [ints_length, nz_length, List.length_range, HL.out] at h; omega
          subst hm5
          replace M := Lib.hid (M.out.on x5)
          clear o5 x5
          go_wp2_with fail
          refine (impl_LineEnds 0 Bt m5 dt tl _ _ (M.out.row_sl 0 rfl) (by omega)).mono ?_
          rintro e w6 ⟨B6, m6, d6, rfl, o6, x6⟩
          rw [HT.out.ends (by rw [HL.out]; exact hk7)] at o6
          have hm6 : m6 = 1 := by have h := o6.1; rw [ints_length] at h; simpa using h.symm
          subst hm6
          replace M := Lib.hid (M.out.own o6 x6)
          clear o6 x6
          go_wp2_with (go_at_call 35; have MN := M.out.own (one_lit _ W) ((Ext.refl' _).al _); (with_reducible refine (sameInts_same _ _ _ _ _ [W] _ (fun _ => True) (fun _ => True) (MN.row_sl 1 rfl) (MN.row_sl 0 rfl) (by omega)).mono ?_); rintro e w7 ⟨rfl, x7⟩; replace M := Lib.hid (MN.on x7); clear MN x7)
          go_ret
          exact ⟨rfl, M.out.ext⟩
      obtain ⟨hgo1, hgo2⟩ := hgo
      have HK : Hid (k < 7) := by show _ < _; omega
      have hk0 : (0 : Int) ≤ (k : Int) := by omega
      go_wp2_with fail
      refine (at_any A n c bs k (by omega) _ _ (HS.out.ext M.out.ext) HB.out).mono ?_
      rintro e w5 ⟨y1, rfl, ⟨y10, y11⟩, rfl⟩
      go_wp2_with fail
      refine (at_any A n c bs (k + 9) (by omega) _ _ (HS.out.ext M.out.ext) HB.out).mono ?_
      rintro e w5 ⟨y2, rfl, ⟨y20, y21⟩, rfl⟩
      go_wp2_with (first | (at_builtin; refine Mine.wp_push M.out rfl _ _ 32 rfl 26 _ _ _ Try.underlying32 Try.infoCall rfl (by omega) 1 rfl rfl _ _ rfl rfl rfl (by simp [Value.oneCell']) (by omega) (by unfold maxLen; omega) ?_; intro A2 c2 w' M'; (try simp only [Act.put, List.setIfInBounds_toArray, List.set_cons_zero, List.set_cons_succ, List.drop_succ_cons, List.drop_zero, List.take_succ_cons, List.take_zero, putAt, ints_set, ints_push, List.getElem_toArray, List.getElem_cons_zero, List.getElem_cons_succ] at M'); replace M := Lib.hid M'; clear M') | ((with_reducible show wpList _ _ _ (⟨_, _, _, _, _, none⟩ :: _) _ _); first | (refine Mine.wp_alloc M.out rfl 26 rfl (.agg #[.int .i64 0, .int .i64 0, .int .i64 0, .int .i64 0, .int .i64 0]) (by kernel_rfl) ?_; intro gx w' M'; (try simp only [Value.cells, Act.put, List.setIfInBounds_toArray, List.set_cons_zero, List.set_cons_succ, List.drop_succ_cons, List.drop_zero, List.take_succ_cons, List.take_zero, putAt, ints_set, ints_push, List.getElem_toArray, List.getElem_cons_zero, List.getElem_cons_succ] at M'); replace M := Lib.hid M'; clear M'; (try simp only [Act.put, List.setIfInBounds_toArray, List.set_cons_zero, List.set_cons_succ, List.drop_succ_cons, List.drop_zero, List.take_succ_cons, List.take_zero, putAt, ints_set, ints_push, List.getElem_toArray, List.getElem_cons_zero, List.getElem_cons_succ])) | (refine Mine.wp_sets M.out rfl 26 _ _ rfl rfl 0 _ rfl rfl _ rfl (Nat.le_of_ble_eq_true rfl) (by simp [Value.oneCell']) (by kernel_rfl) ?_; intro w' M'; (try simp only [Act.put, List.setIfInBounds_toArray, List.set_cons_zero, List.set_cons_succ, List.drop_succ_cons, List.drop_zero, List.take_succ_cons, List.take_zero, putAt, ints_set, ints_push, List.getElem_toArray, List.getElem_cons_zero, List.getElem_cons_succ] at M'); replace M := Lib.hid M'; clear M') | (refine Mine.wp_get M.out rfl _ _ rfl 0 _ rfl rfl _ rfl _ (by first | exact Try.underlying3) (by rfl) ?_; (try simp only [Act.put, List.setIfInBounds_toArray, List.set_cons_zero, List.set_cons_succ, List.drop_succ_cons, List.drop_zero, List.take_succ_cons, List.take_zero, putAt, ints_set, ints_push, List.getElem_toArray, List.getElem_cons_zero, List.getElem_cons_succ])) | (refine Mine.wp_set M.out rfl _ _ _ rfl rfl 0 _ rfl rfl _ (by (conv => lhs; whnf) <;> rfl) (Nat.le_of_ble_eq_true rfl) (by rfl) (by kernel_rfl) ?_; intro w' M'; (try simp only [Act.put, List.setIfInBounds_toArray, List.set_cons_zero, List.set_cons_succ, List.drop_succ_cons, List.drop_zero, List.take_succ_cons, List.take_zero, putAt, ints_set, ints_push, List.getElem_toArray, List.getElem_cons_zero, List.getElem_cons_succ] at M'); replace M := Lib.hid M'; clear M') | (refine Mine.wp_gets M.out rfl 26 _ rfl 0 _ 5 rfl rfl (Nat.le_of_ble_eq_true rfl) _ Try.underlying26 (by rfl) (by kernel_rfl) ?_; (try simp only [Act.put, List.setIfInBounds_toArray, List.set_cons_zero, List.set_cons_succ, List.drop_succ_cons, List.drop_zero, List.take_succ_cons, List.take_zero, putAt, ints_set, ints_push, List.getElem_toArray, List.getElem_cons_zero, List.getElem_cons_succ]))))
      refine (spec_CallDo W _ _ _ _ _ _).mono ?_
      rintro e w6 ⟨rfl, x6⟩
      replace M := Lib.hid (M.out.on x6)
      clear x6
      have HT2 := Lib.hid (HT.out.push (k := 1 + y1 % 4) (a := y2) (by omega) (by omega))
      rw [HL.out] at HT2
      generalize callDo W (1 + y1 % 4) y2 = Y at HT2 ⊢
      obtain ⟨N2, R2⟩ := Y
      simp only at HT2 ⊢
      go_wp2_with (first | (at_builtin; refine Mine.wp_push M.out rfl _ _ 32 rfl 26 _ _ _ Try.underlying32 Try.infoCall rfl (by omega) 1 rfl rfl _ _ rfl rfl rfl (by simp [Value.oneCell']) (by omega) (by unfold maxLen; omega) ?_; intro A2 c2 w' M'; (try simp only [Act.put, List.setIfInBounds_toArray, List.set_cons_zero, List.set_cons_succ, List.drop_succ_cons, List.drop_zero, List.take_succ_cons, List.take_zero, putAt, ints_set, ints_push, List.getElem_toArray, List.getElem_cons_zero, List.getElem_cons_succ] at M'); replace M := Lib.hid M'; clear M') | ((with_reducible show wpList _ _ _ (⟨_, _, _, _, _, none⟩ :: _) _ _); first | (refine Mine.wp_alloc M.out rfl 26 rfl (.agg #[.int .i64 0, .int .i64 0, .int .i64 0, .int .i64 0, .int .i64 0]) (by kernel_rfl) ?_; intro gx w' M'; (try simp only [Value.cells, Act.put, List.setIfInBounds_toArray, List.set_cons_zero, List.set_cons_succ, List.drop_succ_cons, List.drop_zero, List.take_succ_cons, List.take_zero, putAt, ints_set, ints_push, List.getElem_toArray, List.getElem_cons_zero, List.getElem_cons_succ] at M'); replace M := Lib.hid M'; clear M'; (try simp only [Act.put, List.setIfInBounds_toArray, List.set_cons_zero, List.set_cons_succ, List.drop_succ_cons, List.drop_zero, List.take_succ_cons, List.take_zero, putAt, ints_set, ints_push, List.getElem_toArray, List.getElem_cons_zero, List.getElem_cons_succ])) | (refine Mine.wp_sets M.out rfl 26 _ _ rfl rfl 0 _ rfl rfl _ rfl (Nat.le_of_ble_eq_true rfl) (by simp [Value.oneCell']) (by kernel_rfl) ?_; intro w' M'; (try simp only [Act.put, List.setIfInBounds_toArray, List.set_cons_zero, List.set_cons_succ, List.drop_succ_cons, List.drop_zero, List.take_succ_cons, List.take_zero, putAt, ints_set, ints_push, List.getElem_toArray, List.getElem_cons_zero, List.getElem_cons_succ] at M'); replace M := Lib.hid M'; clear M') | (refine Mine.wp_get M.out rfl _ _ rfl 0 _ rfl rfl _ rfl _ (by first | exact Try.underlying3) (by rfl) ?_; (try simp only [Act.put, List.setIfInBounds_toArray, List.set_cons_zero, List.set_cons_succ, List.drop_succ_cons, List.drop_zero, List.take_succ_cons, List.take_zero, putAt, ints_set, ints_push, List.getElem_toArray, List.getElem_cons_zero, List.getElem_cons_succ])) | (refine Mine.wp_set M.out rfl _ _ _ rfl rfl 0 _ rfl rfl _ (by (conv => lhs; whnf) <;> rfl) (Nat.le_of_ble_eq_true rfl) (by rfl) (by kernel_rfl) ?_; intro w' M'; (try simp only [Act.put, List.setIfInBounds_toArray, List.set_cons_zero, List.set_cons_succ, List.drop_succ_cons, List.drop_zero, List.take_succ_cons, List.take_zero, putAt, ints_set, ints_push, List.getElem_toArray, List.getElem_cons_zero, List.getElem_cons_succ] at M'); replace M := Lib.hid M'; clear M') | (refine Mine.wp_gets M.out rfl 26 _ rfl 0 _ 5 rfl rfl (Nat.le_of_ble_eq_true rfl) _ Try.underlying26 (by rfl) (by kernel_rfl) ?_; (try simp only [Act.put, List.setIfInBounds_toArray, List.set_cons_zero, List.set_cons_succ, List.drop_succ_cons, List.drop_zero, List.take_succ_cons, List.take_zero, putAt, ints_set, ints_push, List.getElem_toArray, List.getElem_cons_zero, List.getElem_cons_succ]))))
      rw [calls_push] at M
      go_roundw
      case rel => exact ⟨k + 1, _, _, _, N2, HK.out, rfl, rfl, by go_num, HT2, by show List.length _ = _; rw [List.length_append, HL.out]; rfl, Lib.hid M.out.tail⟩
      case measure => have := HK.out; simp [intOf]; omega
end Go.Proofs.Ytcnkmbofpppfaaa
