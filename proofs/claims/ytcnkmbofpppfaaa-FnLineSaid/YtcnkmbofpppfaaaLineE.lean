/- LineEnds of program and reference: the values that the orders that fit end at. No condition but sizes. -/
import Derived.Test.YtcnkmbofpppfaaaLineS
import Derived.Test.YtcnkmbofpppfaaaSortI
namespace Go.Proofs.Ytcnkmbofpppfaaa
open Go.RowKit Go.Deep
set_option linter.unusedSimpArgs false
set_option linter.unusedVariables false

/-- The ends, ascending. -/
noncomputable def lineE (v : Int) (l : List Call) : List Int := if dec ((0 ≤ v ∧ v ≤ 65535) ∧ callsOk l = true) = true then ascTo ((allFit l v).map (·.2)) 65536 else []
theorem lineE_no {v : Int} {l : List Call} (h : ¬ ((0 ≤ v ∧ v ≤ 65535) ∧ callsOk l = true)) : lineE v l = [] := by unfold lineE; rw [dec_no h]; rfl
theorem lineE_yes {v : Int} {l : List Call} (hv : 0 ≤ v ∧ v ≤ 65535) (h : callsOk l = true) {N : Nat} (hN : N = 65536) : lineE v l = ascTo ((allFit l v).map (·.2)) N := by rw [hN]; unfold lineE; rw [dec_yes ⟨hv, h⟩]; rfl
theorem lineE_len (v : Int) (l : List Call) : (lineE v l).length ≤ 65536 := by
  by_cases h : (0 ≤ v ∧ v ≤ 65535) ∧ callsOk l = true
  · rw [lineE_yes h.1 h.2 rfl]; exact ascTo_len _ _
  · rw [lineE_no h]; simp
theorem lineE_made {v : Int} {l : List Call} (hv : 0 ≤ v ∧ v ≤ 65535) (h : callsOk l = true) : Lib.compact (((foldU stpE [] (leaves l (okI l) l.length [] v)).1).mergeSort fun x y => decide (x ≤ y)) = lineE v l := by
  rw [lineE_yes hv h rfl, foldE, List.nil_append]
  refine compact_sorted fun x hx => ?_
  obtain ⟨y, hy, rfl⟩ := List.mem_map.1 hx
  have := leaves_in h _ _ _ hv y hy
  omega

set_option maxRecDepth 4000 in
set_option maxHeartbeats 8000000 in
theorem impl_LineEnds (v : Int) (A : Option Addr) (n c : Nat) (l : List Call) (w : World) (S : Nat → Prop) (hs : Sl w S 5 A n (l.flatMap Call.cells)) (hm : n ≤ 1048576) :
    Calls Try.prog 30 #[.int .i64 v, .slice A n c] w fun e w' => ∃ B m d, e = .returned (.slice B m d) ∧ w'.ownsRow w.heap.size 3 1 (.slice B m d) m (ints (lineE v l)) ∧ Ext w w' := by
  have HS := Lib.hid hs
  clear hs
  have M : Hid (Mine w w [.row 3 1 none 0 0 (ints (nz []))]) := (Mine.refl w).nil 3 1
  by_cases hv : 0 ≤ v ∧ v ≤ 65535
  rotate_left
  · have dv : decide (0 ≤ v ∧ v ≤ 65535) = false := by simpa using hv
    have HN : Hid (¬ ((0 ≤ v ∧ v ≤ 65535) ∧ callsOk l = true)) := fun h => hv h.1
    clear hv
    go_enter Try.func30, Try.ntmps30
    go_wp2_with (go_at_call 37; (with_reducible refine (isValue_any v _).mono ?_); rintro e w2 ⟨rfl, rfl⟩; rw [dv])
    go_ret
    rw [lineE_no HN.out]
    exact ⟨none, 0, 0, rfl, M.out.row_at 0 rfl, M.out.ext⟩
  have dv : decide (0 ≤ v ∧ v ≤ 65535) = true := by simpa using hv
  have HV := Lib.hid hv
  clear hv
  cases hok : callsOk l
  · have HN : Hid (¬ ((0 ≤ v ∧ v ≤ 65535) ∧ callsOk l = true)) := fun h => by rw [hok] at h; exact absurd h.2 (by simp)
    go_enter Try.func30, Try.ntmps30
    go_wp2_with (first | (go_at_call 37; (with_reducible refine (isValue_any v _).mono ?_); rintro e w2 ⟨rfl, rfl⟩; rw [dv]) | (go_at_call 16; (with_reducible refine (impl_CallsOk A n c l _ _ (HS.out.ext M.out.ext) hm).mono ?_); rintro e w2 ⟨rfl, x9⟩; rw [hok]; replace M := Lib.hid (M.out.on x9); clear x9))
    go_ret
    rw [lineE_no HN.out]
    exact ⟨none, 0, 0, rfl, M.out.row_at 0 rfl, M.out.ext⟩
  have HOK := Lib.hid hok
  have hl7 := callsOk_len hok
  go_enter Try.func30, Try.ntmps30
  go_wp2_with (first | (go_at_call 37; (with_reducible refine (isValue_any v _).mono ?_); rintro e w2 ⟨rfl, rfl⟩; rw [dv]) | (go_at_call 16; (with_reducible refine (impl_CallsOk A n c l _ _ (HS.out.ext M.out.ext) hm).mono ?_); rintro e w2 ⟨rfl, x9⟩; rw [hok]; replace M := Lib.hid (M.out.on x9); clear x9) | (go_at_call 44; (with_reducible refine (fitE_any hok HS.out l.length _ _ 0 0 [] none 0 0 [] v [] (by simp) (by simp) (by have := room hl7 (ok := okI l) v; simpa using this) M.out).mono ?_); rintro e w2 ⟨B', m', d', rfl, M'⟩; have hm' : m' ≤ 1048576 := (by have h1 := M'.len1 1 rfl; rw [ints_length, foldE] at h1; have h2 := room hl7 (ok := okI l) v; simp at h1; omega); replace M := Lib.hid M'; clear M') | (go_at_call 48; (with_reducible refine (sortInts_any M.out 1 rfl hm').mono ?_); rintro e w2 ⟨rfl, M'⟩; simp only [List.set_cons_succ, List.set_cons_zero] at M'; replace M := Lib.hid M'; clear M') | (go_at_call 49; (with_reducible refine (compactInts_any M.out 1 rfl hm').mono ?_); rintro e w2 ⟨mq, rfl, M'⟩; simp only [List.set_cons_succ, List.set_cons_zero] at M'; replace M := Lib.hid M'; clear M') | ((with_reducible show wpList _ _ _ (⟨_, _, _, _, _, none⟩ :: _) _ _); first | (refine Mine.wp_alloc (M.out.own (own_emptyC _) ((Ext.refl' _).al _)) rfl 36 rfl (.slice none 0 0) (by kernel_rfl) ?_; intro gv w' M'; (try simp only [Value.cells, Act.put, List.setIfInBounds_toArray, List.set_cons_zero, List.set_cons_succ, List.drop_succ_cons, List.drop_zero, List.take_succ_cons, List.take_zero, putAt, ints_set, ints_push, List.getElem_toArray, List.getElem_cons_zero, List.getElem_cons_succ] at M'); replace M := Lib.hid M'; clear M'; (try simp only [Act.put, List.setIfInBounds_toArray, List.set_cons_zero, List.set_cons_succ, List.drop_succ_cons, List.drop_zero, List.take_succ_cons, List.take_zero, putAt, ints_set, ints_push, List.getElem_toArray, List.getElem_cons_zero, List.getElem_cons_succ])) | (refine Mine.wp_set M.out rfl _ _ _ rfl rfl 0 _ rfl rfl _ (by (conv => lhs; whnf) <;> rfl) (Nat.le_of_ble_eq_true rfl) (by rfl) (by kernel_rfl) ?_; intro w' M'; (try simp only [Act.put, List.setIfInBounds_toArray, List.set_cons_zero, List.set_cons_succ, List.drop_succ_cons, List.drop_zero, List.take_succ_cons, List.take_zero, putAt, ints_set, ints_push, List.getElem_toArray, List.getElem_cons_zero, List.getElem_cons_succ] at M'); replace M := Lib.hid M'; clear M') | (refine Mine.wp_get M.out rfl _ _ rfl 0 _ rfl rfl _ rfl _ (by first | exact Try.underlying36) (by rfl) ?_; (try simp only [Act.put, List.setIfInBounds_toArray, List.set_cons_zero, List.set_cons_succ, List.drop_succ_cons, List.drop_zero, List.take_succ_cons, List.take_zero, putAt, ints_set, ints_push, List.getElem_toArray, List.getElem_cons_zero, List.getElem_cons_succ]))))
  go_ret
  rw [← lineE_made HV.out HOK.out]
  exact ⟨_, _, _, rfl, M.out.row_at 1 rfl, M.out.ext⟩
set_option maxRecDepth 4000 in
set_option maxHeartbeats 8000000 in
theorem spec_LineEnds (v : Int) (A : Option Addr) (n c : Nat) (l : List Call) (w : World) (S : Nat → Prop) (hs : Sl w S 5 A n (l.flatMap Call.cells)) (hm : n ≤ 1048576) :
    Calls Try.prog 29 #[.int .i64 v, .slice A n c] w fun e w' => ∃ B m d, e = .returned (.slice B m d) ∧ w'.ownsRow w.heap.size 3 1 (.slice B m d) m (ints (lineE v l)) ∧ Ext w w' := by
  have HS := Lib.hid hs
  clear hs
  have M : Hid (Mine w w []) := Mine.refl w
  by_cases hv : 0 ≤ v ∧ v ≤ 65535
  rotate_left
  · have dv : decide (0 ≤ v ∧ v ≤ 65535) = false := by simpa using hv
    have HN : Hid (¬ ((0 ≤ v ∧ v ≤ 65535) ∧ callsOk l = true)) := fun h => hv h.1
    clear hv
    go_enter Try.func29, Try.ntmps29
    go_wp2_with (go_at_call 36; (with_reducible refine (l3Val_any v _).mono ?_); rintro e w2 ⟨rfl, rfl⟩; rw [dv]; replace M := Lib.hid (M.out.own (own_emptyC _) ((Ext.refl' _).al _)))
    go_ret
    rw [lineE_no HN.out]
    exact ⟨_, 0, 0, rfl, M.out.row_at 0 rfl, M.out.ext⟩
  have dv : decide (0 ≤ v ∧ v ≤ 65535) = true := by simpa using hv
  have HV := Lib.hid hv
  clear hv
  cases hok : callsOk l
  · have HN : Hid (¬ ((0 ≤ v ∧ v ≤ 65535) ∧ callsOk l = true)) := fun h => by rw [hok] at h; exact absurd h.2 (by simp)
    go_enter Try.func29, Try.ntmps29
    go_wp2_with (first | (go_at_call 36; (with_reducible refine (l3Val_any v _).mono ?_); rintro e w2 ⟨rfl, rfl⟩; rw [dv]; replace M := Lib.hid (M.out.own (own_emptyC _) ((Ext.refl' _).al _))) | (go_at_call 14; (with_reducible refine (spec_CallsOk A n c l _ _ (HS.out.ext M.out.ext) hm).mono ?_); rintro e w2 ⟨rfl, x9⟩; rw [hok]; replace M := Lib.hid (M.out.on x9); clear x9))
    go_ret
    rw [lineE_no HN.out]
    exact ⟨_, 0, 0, rfl, M.out.row_at 0 rfl, M.out.ext⟩
  have HOK := Lib.hid hok
  have hl7 := callsOk_len hok
  obtain ⟨N, hN⟩ : ∃ N : Nat, N = 65536 := ⟨_, rfl⟩
  have HNN := Lib.hid hN
  have hN1 : (N : Int) ≤ 1048576 := by omega
  clear hN
  go_enter Try.func29, Try.ntmps29
  go_wp2_with (first | (go_at_call 36; (with_reducible refine (l3Val_any v _).mono ?_); rintro e w2 ⟨rfl, rfl⟩; rw [dv]; replace M := Lib.hid (M.out.own (own_emptyC _) ((Ext.refl' _).al _))) | (go_at_call 14; (with_reducible refine (spec_CallsOk A n c l _ _ (HS.out.ext M.out.ext) hm).mono ?_); rintro e w2 ⟨rfl, x9⟩; rw [hok]; replace M := Lib.hid (M.out.on x9); clear x9) | (go_at_call 43; have M3 := (M.out.own (own_emptyC _) ((Ext.refl' _).al _)).sink [_]; simp only [List.cons_append, List.nil_append] at M3; (with_reducible refine (from_any hok HS.out HNN.out l.length _ [] _ 0 0 [] v _ (by simp) (by simp) HV.out M3).mono ?_); clear M3; rintro e w2 ⟨B', m', d', rfl, M'⟩; replace M := Lib.hid ((M'.drop_at [_]).drop_at [_]); clear M') | ((with_reducible show wpList _ _ _ (⟨_, _, _, _, _, none⟩ :: _) _ _); first | (refine Mine.wp_make M.out rfl _ _ 59 rfl 4 _ _ _ Try.underlying59 Try.infoBool N (by rw [HNN.out]; rfl) (by rw [HNN.out]; rfl) (by have := HNN.out; omega) (by have := HNN.out; unfold maxLen; omega) ?_; intro gv w' M'; rw [bits_nil] at M'; replace M := Lib.hid M'; clear M')))
  simp only [List.cons_append, List.nil_append] at M
  rw [allFit_spec HOK.out] at M
  have HE := Lib.hid (lineE_yes HV.out HOK.out HNN.out)
  generalize hvs : (allFit l v).map (·.2) = vs at M HE
  clear hvs hok
  go_loopw [5, 7] (fun s i wr => ∃ (k m d : Nat) (B : Option Addr), k ≤ N ∧ s = .slice B m d ∧ i = .int .i64 k ∧ Hid (Mine w wr (.row 4 1 (some ⟨gv, 0, none⟩) N N (bitsOf N vs) :: .row 3 1 B m d (ints (ascTo vs k)) :: []))) (fun _ i _ => N - (intOf i).toNat)
  case atStart => exact ⟨0, _, _, _, Nat.zero_le _, rfl, rfl, M⟩
  case round =>
    clear M
    obtain ⟨k, m, d, B, hk, rfl, rfl, M⟩ := hrel
    by_cases hlt : (k : Int) < (N : Int)
    rotate_left
    · obtain rfl : k = N := by omega
      go_wp2
      go_ret
      rw [HE.out]
      exact ⟨_, _, _, rfl, M.out.row_at 1 rfl, M.out.ext⟩
    have HK1 : Hid (k < N) := by show _ < _; omega
    have hmk : m ≤ 1048576 := by have h1 := M.out.len1 1 rfl; rw [ints_length] at h1; have h2 := ascTo_len vs k; omega
    have hb := bits_get (vs := vs) HK1.out
    by_cases hin : (k : Int) ∈ vs
    · rw [dec_yes hin] at hb
      have HIN := Lib.hid hin
      clear hin
      go_wp2_with (first | (at_builtin; refine Mine.wp_push M.out rfl _ _ 36 rfl 3 _ _ _ Try.underlying36 Try.infoInt rfl (by omega) 1 rfl rfl _ _ rfl rfl rfl (by simp [Value.oneCell']) (by omega) (by unfold maxLen; omega) ?_; intro A2 c2 w' M'; (try simp only [Act.put, List.setIfInBounds_toArray, List.set_cons_zero, List.set_cons_succ, List.drop_succ_cons, List.drop_zero, List.take_succ_cons, List.take_zero, putAt, ints_set, ints_push, List.getElem_toArray, List.getElem_cons_zero, List.getElem_cons_succ] at M'); replace M := Lib.hid M'; clear M') | ((with_reducible show wpList _ _ _ (⟨_, _, _, _, _, none⟩ :: _) _ _); first | (refine Mine.wp_getr M.out rfl _ _ rfl 0 _ rfl rfl _ (by first | assumption | simpa using hb) _ (by first | exact Try.underlying4) (by rfl) ?_; (try simp only [Act.put, List.setIfInBounds_toArray, List.set_cons_zero, List.set_cons_succ, List.drop_succ_cons, List.drop_zero, List.take_succ_cons, List.take_zero, putAt, ints_set, ints_push, List.getElem_toArray, List.getElem_cons_zero, List.getElem_cons_succ]))))
      go_roundw
      case rel => exact ⟨k + 1, _, _, _, HK1.out, rfl, by go_num, Lib.hid (by rw [ascTo_yes HIN.out]; exact M.out)⟩
      case measure => have := HK1.out; simp [intOf]; omega
    · rw [dec_no hin] at hb
      have HIN := Lib.hid hin
      clear hin
      go_wp2_with (first | ((with_reducible show wpList _ _ _ (⟨_, _, _, _, _, none⟩ :: _) _ _); first | (refine Mine.wp_getr M.out rfl _ _ rfl 0 _ rfl rfl _ (by first | assumption | simpa using hb) _ (by first | exact Try.underlying4) (by rfl) ?_; (try simp only [Act.put, List.setIfInBounds_toArray, List.set_cons_zero, List.set_cons_succ, List.drop_succ_cons, List.drop_zero, List.take_succ_cons, List.take_zero, putAt, ints_set, ints_push, List.getElem_toArray, List.getElem_cons_zero, List.getElem_cons_succ]))))
      go_roundw
      case rel => exact ⟨k + 1, _, _, _, HK1.out, rfl, by go_num, Lib.hid (by rw [ascTo_no HIN.out]; exact M.out)⟩
      case measure => have := HK1.out; simp [intOf]; omega
end Go.Proofs.Ytcnkmbofpppfaaa
