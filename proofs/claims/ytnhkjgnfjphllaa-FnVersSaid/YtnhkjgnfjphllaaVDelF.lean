/- slices.DeleteFunc on versions that a call owns. No condition but lengths. -/
import Derived.Test.YtnhkjgnfjphllaaVDel
namespace Go.Proofs.Ytnhkjgnfjphllaa
open Go.RowKit Go.Deep
set_option linter.unusedSimpArgs false
set_option linter.unusedVariables false

theorem set_nextp {F l : List Ver} {x : Ver} {p : Nat} (hp : F.length = p) (h : p < l.length) : (F ++ l.drop p).set p x = (F ++ [x]) ++ l.drop (p + 1) := by
  subst hp
  have := set_next (x := x) h
  simpa using this
theorem mix_getp {F l : List Ver} {j p : Nat} (hp : F.length = p) (h : p ≤ j) : (F ++ l.drop p)[j]? = l[j]? := by
  subst hp
  exact mix_get h
theorem take_flat {F R : List Ver} {p : Nat} (hp : F.length = p) : ((F ++ R).flatMap Ver.cells).take (p * 3) = F.flatMap Ver.cells := by
  subst hp
  rw [List.flatMap_append]
  exact List.take_left' (flat_length Ver.cells_length F)
theorem zeroVer : ∀ w, (zeroValue 73).run Try.prog w = .ok (.agg #[.int .i64 0, .int .i64 0, .int .i64 0]) w := fun _ => by kernel_rfl

set_option maxRecDepth 4000 in
set_option maxHeartbeats 8000000 in
theorem delFunc_m (A : Option Addr) (n c : Nat) (l : List Ver) (N : Int) (gn : Nat) (b w : World) (fr : List Res) (M0 : Mine b w (.row 73 3 A n c (l.flatMap Ver.cells) :: .box gn 3 #[.int .i64 N] :: fr)) (hm : n ≤ 1048576) :
    Calls Try.prog 64 #[.slice A n c, .func (.func 65) #[] #[.pointer (some ⟨gn, 0, none⟩)]] w fun e w' => ∃ m, e = .returned (.slice A m c) ∧ m ≤ n ∧ Mine b w' (.row 73 3 A m c ((keepN N l).flatMap Ver.cells) :: .box gn 3 #[.int .i64 N] :: fr) := by
  have hln := M0.len 0 rfl
  rw [flat_length Ver.cells_length] at hln
  obtain rfl : l.length = n := by omega
  have hnc := M0.cap 0 rfl
  have M := Lib.hid M0
  clear M0 hln
  go_enter Try.func64, Try.ntmps64
  go_wp2_with fail
  refine (idxDel_any A _ c l _ _ (M.out.row_sl 0 rfl) hm N gn ((M.out.box_at 1 rfl).cell 0) (M.out.box_at 1 rfl).lt).mono ?_
  rintro e w1 ⟨i, rfl, hi, x1⟩
  replace M := Lib.hid (M.out.on x1)
  clear x1
  rcases hi with ⟨rfl, hall⟩ | ⟨k, x, rfl, hkn, hall, hx, hxN⟩
  · have hk := keep_all hall
    rw [List.take_length] at hk
    have HK := Lib.hid hk
    clear hk hall
    go_wp2
    go_ret
    exact ⟨_, rfl, Nat.le_refl _, by rw [HK.out]; exact M.out⟩
  have hk1 := keep_all hall
  have hk2 := keep_no hx hxN
  rw [hk1] at hk2
  have HF := Lib.hid hk2.symm
  have HT : Hid ((l.take k).length = k) := by show _ = _; rw [List.length_take]; omega
  clear hall hk1 hk2 hx hxN
  obtain ⟨g, rfl⟩ := M.out.addr 0 rfl (by omega)
  have b0 : ((k : Int) == -1) = false := by first | (simp; done) | (simp; omega)
  go_wp2
  go_loopw [5, 6] (fun ii jj wr => ∃ (j p : Nat) (F : List Ver), Hid (F = keepN N (l.take j)) ∧ Hid (F.length = p) ∧ p < j ∧ j ≤ l.length ∧ ii = .int .i64 p ∧ jj = .int .i64 j ∧ Mine b wr (.row 73 3 (some ⟨g, 0, none⟩) l.length c ((F ++ l.drop p).flatMap Ver.cells) :: .box gn 3 #[.int .i64 N] :: fr)) (fun _ jj _ => l.length - (intOf jj).toNat)
  case atStart => exact ⟨k + 1, k, l.take k, HF, HT, by omega, by omega, rfl, by go_num, by rw [List.take_append_drop]; exact M.out⟩
  case round =>
    clear M
    obtain ⟨j, p, F, HFE, HP, hpj, hjl, rfl, rfl, M1⟩ := hrel
    have M := Lib.hid M1
    clear M1
    by_cases hlt : (j : Int) < (l.length : Int)
    rotate_left
    · have ej : j = l.length := by omega
      have HE : Hid (F = keepN N l) := by show _ = _; rw [HFE.out, ej, List.take_length]
      have hpl : p ≤ l.length := by omega
      have hpc : (p : Int) ≤ (c : Int) := by omega
      have hpl2 : (p : Int) ≤ (l.length : Int) := by omega
      clear ej HFE
      go_wp2_with (refine Mine.wp_clear M.out rfl _ 23 rfl rfl 73 _ 3 Try.underlying23 zeroVer rfl (by simp [Value.cells, Value.oneCell']) (by omega) 0 rfl p (l.length - p) _ rfl (by omega) ?_; intro w' xs' hxs M'; replace M := Lib.hid M'; clear M'; have HXS := Lib.hid hxs; clear hxs)
      go_ret
      have M2 := M.out.cut 0 rfl (m := p) hpl
      rw [HXS.out, take_flat HP.out, HE.out] at M2
      exact ⟨p, rfl, hpl, M2⟩
    have hxj : l[j]? = some l[j] := List.getElem?_eq_getElem (by omega)
    generalize l[j]'(by omega) = x at hxj
    have HX := Lib.hid hxj
    obtain ⟨x0, x1, x2⟩ := x
    have hz : ∀ q, q < 3 → ((F ++ l.drop p).flatMap Ver.cells)[j * 3 + q]? = ([.int .i64 x0, .int .i64 x1, .int .i64 x2] : List Value)[q]? := fun q hq => flat_get Ver.cells_length _ j q _ ((mix_getp HP.out (by omega)).trans hxj) hq
    have E := flat_put (l := F ++ l.drop p) (k := p) (a := (⟨x0, x1, x2⟩ : Ver)) Ver.cells_length (by omega) (by have := HP.out; simp; omega)
    rw [set_nextp HP.out (by omega)] at E
    generalize hXT : (F ++ l.drop p).flatMap Ver.cells = XT at M hz E
    have HZ := Lib.hid hz
    simp only [Ver.cells, putAt] at E
    have HEE := Lib.hid E
    have hXTb := Lib.hid hXT
    clear hz hxj E hXT
    go_wp2_with (first | (refine Mine.wp_getrs M.out rfl 73 _ rfl 0 _ rfl rfl [.int .i64 x0, .int .i64 x1, .int .i64 x2] HZ.out _ Try.underlying73 (by rfl) (by kernel_rfl) ?_; (try simp only [Act.put, List.setIfInBounds_toArray, List.set_cons_zero, List.set_cons_succ, List.drop_succ_cons, List.drop_zero, List.take_succ_cons, List.take_zero, putAt, ints_set, ints_push])) | (refine Mine.wp_alloc M.out rfl 73 rfl (.agg #[.int .i64 0, .int .i64 0, .int .i64 0]) (by kernel_rfl) ?_; intro gv w' M'; (try simp only [Value.cells, Act.put, List.setIfInBounds_toArray, List.set_cons_zero, List.set_cons_succ, List.drop_succ_cons, List.drop_zero, List.take_succ_cons, List.take_zero, putAt, ints_set, ints_push] at M'); replace M := Lib.hid M'; clear M'; (try simp only [Act.put, List.setIfInBounds_toArray, List.set_cons_zero, List.set_cons_succ, List.drop_succ_cons, List.drop_zero, List.take_succ_cons, List.take_zero, putAt, ints_set, ints_push])) | (refine Mine.wp_sets M.out rfl 73 _ _ rfl rfl 0 _ rfl rfl _ rfl (Nat.le_of_ble_eq_true rfl) (by simp [Value.oneCell']) (by kernel_rfl) ?_; intro w' M'; (try simp only [Act.put, List.setIfInBounds_toArray, List.set_cons_zero, List.set_cons_succ, List.drop_succ_cons, List.drop_zero, List.take_succ_cons, List.take_zero, putAt, ints_set, ints_push] at M'); replace M := Lib.hid M'; clear M') | (refine Mine.wp_gets M.out rfl 73 _ rfl 0 _ 3 rfl rfl (Nat.le_of_ble_eq_true rfl) _ Try.underlying73 (by rfl) (by kernel_rfl) ?_; (try simp only [Act.put, List.setIfInBounds_toArray, List.set_cons_zero, List.set_cons_succ, List.drop_succ_cons, List.drop_zero, List.take_succ_cons, List.take_zero, putAt, ints_set, ints_push])))
    refine (delC_any _ _ _ N gn _ ((M.out.box_at 2 rfl).cell 0) (M.out.box_at 2 rfl).lt).mono ?_
    rintro e w2 ⟨rfl, x2⟩
    replace M := Lib.hid (M.out.on x2)
    clear x2
    by_cases h0 : x1 ≤ N
    · have b1 : decide (x1 ≤ N) = true := decide_eq_true h0
      have HF2 : Hid (F = keepN N (l.take (j + 1))) := by show _ = _; rw [keep_no HX.out h0]; exact HFE.out
      clear h0
      go_wp2
      go_roundw
      case rel => exact ⟨j + 1, p, F, HF2, HP, by omega, by omega, rfl, by go_num, by rw [hXTb.out]; exact M.out.tail⟩
      case measure => simp [intOf]; omega
    have b1 : decide (x1 ≤ N) = false := decide_eq_false h0
    have HF2 : Hid (F ++ [(⟨x0, x1, x2⟩ : Ver)] = keepN N (l.take (j + 1))) := by show _ = _; rw [keep_yes HX.out h0, ← HFE.out]
    have HP2 : Hid ((F ++ [(⟨x0, x1, x2⟩ : Ver)]).length = p + 1) := by show _ = _; rw [List.length_append, HP.out]; rfl
    clear h0
    go_wp2_with (first | (refine Mine.wp_gets M.out rfl 73 _ rfl 0 _ 3 rfl rfl (Nat.le_of_ble_eq_true rfl) _ Try.underlying73 (by rfl) (by kernel_rfl) ?_; (try simp only [Act.put, List.setIfInBounds_toArray, List.set_cons_zero, List.set_cons_succ, List.drop_succ_cons, List.drop_zero, List.take_succ_cons, List.take_zero, putAt, ints_set, ints_push])) | (refine Mine.wp_puts M.out rfl 73 _ _ rfl rfl 1 _ rfl rfl _ rfl (by simp only [List.length_cons, List.length_nil]; omega) (by simp [Value.oneCell']) (by kernel_rfl) ?_; intro w' M'; (try simp only [Act.put, List.setIfInBounds_toArray, List.set_cons_zero, List.set_cons_succ, List.drop_succ_cons, List.drop_zero, List.take_succ_cons, List.take_zero, putAt, ints_set, ints_push] at M'); replace M := Lib.hid M'; clear M'))
    rw [HEE.out] at M
    go_roundw
    case rel => exact ⟨j + 1, p + 1, _, HF2, HP2, by omega, by omega, by go_num, by go_num, M.out.tail⟩
    case measure => simp [intOf]; omega
end Go.Proofs.Ytnhkjgnfjphllaa
