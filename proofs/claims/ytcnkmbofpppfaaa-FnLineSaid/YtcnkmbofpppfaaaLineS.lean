/- LineOrder of program and reference: the first order that fits. No condition but sizes. -/
import Derived.Test.YtcnkmbofpppfaaaLineG
import Derived.Test.YtcnkmbofpppfaaaLineF
namespace Go.Proofs.Ytcnkmbofpppfaaa
open Go.RowKit Go.Deep
set_option linter.unusedSimpArgs false
set_option linter.unusedVariables false

/-- The order that LineOrder answers. -/
noncomputable def lineO (v : Int) (l : List Call) : List Int × Bool := if dec ((0 ≤ v ∧ v ≤ 65535) ∧ callsOk l = true) = true then foldU stpO [] (allFit l v) else ([], false)
theorem lineO_no {v : Int} {l : List Call} (h : ¬ ((0 ≤ v ∧ v ≤ 65535) ∧ callsOk l = true)) : lineO v l = ([], false) := by unfold lineO; rw [dec_no h]; rfl
theorem lineO_yes {v : Int} {l : List Call} (hv : 0 ≤ v ∧ v ≤ 65535) (h : callsOk l = true) : lineO v l = foldU stpO [] (allFit l v) := by unfold lineO; rw [dec_yes ⟨hv, h⟩]; rfl
theorem leaves_long {l : List Call} {ok : List Nat → Int → Nat → Bool} : ∀ (f : Nat) (p : List Nat) (v : Int), ∀ x ∈ leaves l ok f p v, x.1.length = p.length + f
  | 0, p, v, x, hx => by simp [leaves] at hx; subst hx; rfl
  | f + 1, p, v, x, hx => by
    obtain ⟨k, hk, _, h⟩ := leavesTo_mem hx
    have := leaves_long f _ _ x h
    simp at this
    omega
theorem lineO_len (v : Int) (l : List Call) : (lineO v l).1.length ≤ 7 := by
  by_cases h : (0 ≤ v ∧ v ≤ 65535) ∧ callsOk l = true
  · rw [lineO_yes h.1 h.2, foldO]
    have h1 := callsOk_len h.2
    cases e : allFit l v with
    | nil => simp
    | cons x L =>
      have := leaves_long l.length [] v x (by show x ∈ allFit l v; rw [e]; simp)
      show (nz x.1).length ≤ 7
      rw [nz_length, this]
      simpa using h1
  · rw [lineO_no h]; simp
theorem room {l : List Call} (hl : l.length ≤ 7) {ok : List Nat → Int → Nat → Bool} (v : Int) : (leaves l ok l.length [] v).length ≤ 1000000 := by
  have h1 := leaves_len hl (ok := ok) l.length [] v
  have h2 : 7 ^ l.length ≤ 7 ^ 7 := Nat.pow_le_pow_right (by omega) hl
  have h3 : (7 : Nat) ^ 7 = 823543 := rfl
  omega

set_option maxRecDepth 4000 in
set_option maxHeartbeats 8000000 in
theorem impl_LineOrder (v : Int) (A : Option Addr) (n c : Nat) (l : List Call) (w : World) (S : Nat → Prop) (hs : Sl w S 5 A n (l.flatMap Call.cells)) (hm : n ≤ 1048576) :
    Calls Try.prog 25 #[.int .i64 v, .slice A n c] w fun e w' => ∃ B m d, e = .returned (.tuple #[.slice B m d, .bool (lineO v l).2]) ∧ w'.ownsRow w.heap.size 3 1 (.slice B m d) m (ints (lineO v l).1) ∧ Ext w w' := by
  have HS := Lib.hid hs
  clear hs
  have M : Hid (Mine w w [.row 3 1 none 0 0 (ints []), .row 3 1 none 0 0 (ints (nz []))]) := ((Mine.refl w).nil 3 1).nil 3 1
  by_cases hv : 0 ≤ v ∧ v ≤ 65535
  rotate_left
  · have dv : decide (0 ≤ v ∧ v ≤ 65535) = false := by simpa using hv
    have HN : Hid (¬ ((0 ≤ v ∧ v ≤ 65535) ∧ callsOk l = true)) := fun h => hv h.1
    clear hv
    go_enter Try.func25, Try.ntmps25
    go_wp2_with (go_at_call 37; (with_reducible refine (isValue_any v _).mono ?_); rintro e w2 ⟨rfl, rfl⟩; rw [dv])
    go_ret2
    rw [lineO_no HN.out]
    exact ⟨none, 0, 0, rfl, M.out.row_at 0 rfl, M.out.ext⟩
  have dv : decide (0 ≤ v ∧ v ≤ 65535) = true := by simpa using hv
  have HV := Lib.hid hv
  clear hv
  cases hok : callsOk l
  · have HN : Hid (¬ ((0 ≤ v ∧ v ≤ 65535) ∧ callsOk l = true)) := fun h => by rw [hok] at h; exact absurd h.2 (by simp)
    go_enter Try.func25, Try.ntmps25
    go_wp2_with (first | (go_at_call 37; (with_reducible refine (isValue_any v _).mono ?_); rintro e w2 ⟨rfl, rfl⟩; rw [dv]) | (go_at_call 16; (with_reducible refine (impl_CallsOk A n c l _ _ (HS.out.ext M.out.ext) hm).mono ?_); rintro e w2 ⟨rfl, x9⟩; rw [hok]; replace M := Lib.hid (M.out.on x9); clear x9))
    go_ret2
    rw [lineO_no HN.out]
    exact ⟨none, 0, 0, rfl, M.out.row_at 0 rfl, M.out.ext⟩
  have HOK := Lib.hid hok
  have hl7 := callsOk_len hok
  go_enter Try.func25, Try.ntmps25
  go_wp2_with (first | (go_at_call 37; (with_reducible refine (isValue_any v _).mono ?_); rintro e w2 ⟨rfl, rfl⟩; rw [dv]) | (go_at_call 16; (with_reducible refine (impl_CallsOk A n c l _ _ (HS.out.ext M.out.ext) hm).mono ?_); rintro e w2 ⟨rfl, x9⟩; rw [hok]; replace M := Lib.hid (M.out.on x9); clear x9) | (go_at_call 44; (with_reducible refine (fitO_any hok HS.out l.length _ none 0 0 [] none 0 0 [] v [] (by simp) (by simp) (by have := room hl7 (ok := okI l) v; simpa using this) M.out).mono ?_); rintro e w2 ⟨B', m', d', rfl, M'⟩; replace M := Lib.hid M'; clear M') | ((with_reducible show wpList _ _ _ (⟨_, _, _, _, _, none⟩ :: _) _ _); first | (refine Mine.wp_alloc M.out rfl 36 rfl (.slice none 0 0) (by kernel_rfl) ?_; intro gv w' M'; (try simp only [Value.cells, Act.put, List.setIfInBounds_toArray, List.set_cons_zero, List.set_cons_succ, List.drop_succ_cons, List.drop_zero, List.take_succ_cons, List.take_zero, putAt, ints_set, ints_push, List.getElem_toArray, List.getElem_cons_zero, List.getElem_cons_succ] at M'); replace M := Lib.hid M'; clear M'; (try simp only [Act.put, List.setIfInBounds_toArray, List.set_cons_zero, List.set_cons_succ, List.drop_succ_cons, List.drop_zero, List.take_succ_cons, List.take_zero, putAt, ints_set, ints_push, List.getElem_toArray, List.getElem_cons_zero, List.getElem_cons_succ])) | (refine Mine.wp_set M.out rfl _ _ _ rfl rfl 0 _ rfl rfl _ (by (conv => lhs; whnf) <;> rfl) (Nat.le_of_ble_eq_true rfl) (by rfl) (by kernel_rfl) ?_; intro w' M'; (try simp only [Act.put, List.setIfInBounds_toArray, List.set_cons_zero, List.set_cons_succ, List.drop_succ_cons, List.drop_zero, List.take_succ_cons, List.take_zero, putAt, ints_set, ints_push, List.getElem_toArray, List.getElem_cons_zero, List.getElem_cons_succ] at M'); replace M := Lib.hid M'; clear M') | (refine Mine.wp_get M.out rfl _ _ rfl 0 _ rfl rfl _ rfl _ (by first | exact Try.underlying36) (by rfl) ?_; (try simp only [Act.put, List.setIfInBounds_toArray, List.set_cons_zero, List.set_cons_succ, List.drop_succ_cons, List.drop_zero, List.take_succ_cons, List.take_zero, putAt, ints_set, ints_push, List.getElem_toArray, List.getElem_cons_zero, List.getElem_cons_succ]))))
  go_ret2
  rw [lineO_yes HV.out HOK.out]
  first | exact ⟨_, _, _, rfl, M.out.row_at 1 rfl, M.out.ext⟩ | exact ⟨B', m', d', rfl, M.out.row_at 1 rfl, M.out.ext⟩
set_option maxRecDepth 4000 in
set_option maxHeartbeats 8000000 in
theorem spec_LineOrder (v : Int) (A : Option Addr) (n c : Nat) (l : List Call) (w : World) (S : Nat → Prop) (hs : Sl w S 5 A n (l.flatMap Call.cells)) (hm : n ≤ 1048576) :
    Calls Try.prog 24 #[.int .i64 v, .slice A n c] w fun e w' => ∃ B m d, e = .returned (.tuple #[.slice B m d, .bool (lineO v l).2]) ∧ w'.ownsRow w.heap.size 3 1 (.slice B m d) m (ints (lineO v l).1) ∧ Ext w w' := by
  have HS := Lib.hid hs
  clear hs
  have M : Hid (Mine w w []) := Mine.refl w
  by_cases hv : 0 ≤ v ∧ v ≤ 65535
  rotate_left
  · have dv : decide (0 ≤ v ∧ v ≤ 65535) = false := by simpa using hv
    have HN : Hid (¬ ((0 ≤ v ∧ v ≤ 65535) ∧ callsOk l = true)) := fun h => hv h.1
    clear hv
    go_enter Try.func24, Try.ntmps24
    go_wp2_with (go_at_call 36; (with_reducible refine (l3Val_any v _).mono ?_); rintro e w2 ⟨rfl, rfl⟩; rw [dv])
    go_ret2
    have M9 := M.out.own (own_emptyC _) ((Ext.refl' _).al _)
    rw [lineO_no HN.out]
    exact ⟨_, 0, 0, rfl, M9.row_at 0 rfl, M9.ext⟩
  have dv : decide (0 ≤ v ∧ v ≤ 65535) = true := by simpa using hv
  have HV := Lib.hid hv
  clear hv
  cases hok : callsOk l
  · have HN : Hid (¬ ((0 ≤ v ∧ v ≤ 65535) ∧ callsOk l = true)) := fun h => by rw [hok] at h; exact absurd h.2 (by simp)
    go_enter Try.func24, Try.ntmps24
    go_wp2_with (first | (go_at_call 36; (with_reducible refine (l3Val_any v _).mono ?_); rintro e w2 ⟨rfl, rfl⟩; rw [dv]) | (go_at_call 14; (with_reducible refine (spec_CallsOk A n c l _ _ (HS.out.ext M.out.ext) hm).mono ?_); rintro e w2 ⟨rfl, x9⟩; rw [hok]; replace M := Lib.hid (M.out.on x9); clear x9))
    go_ret2
    have M9 := M.out.own (own_emptyC _) ((Ext.refl' _).al _)
    rw [lineO_no HN.out]
    exact ⟨_, 0, 0, rfl, M9.row_at 0 rfl, M9.ext⟩
  have HOK := Lib.hid hok
  have hl7 := callsOk_len hok
  obtain ⟨N, hN⟩ : ∃ N : Nat, N = 65536 := ⟨_, rfl⟩
  have HNN := Lib.hid hN
  clear hN
  go_enter Try.func24, Try.ntmps24
  go_wp2_with (first | (go_at_call 36; (with_reducible refine (l3Val_any v _).mono ?_); rintro e w2 ⟨rfl, rfl⟩; rw [dv]) | (go_at_call 14; (with_reducible refine (spec_CallsOk A n c l _ _ (HS.out.ext M.out.ext) hm).mono ?_); rintro e w2 ⟨rfl, x9⟩; rw [hok]; replace M := Lib.hid (M.out.on x9); clear x9) | (go_at_call 43; (with_reducible refine (from_any hok HS.out HNN.out l.length _ [] _ 0 0 [] v [] (by simp) (by simp) HV.out M.out).mono ?_); rintro e w2 ⟨B', m', d', rfl, M'⟩; replace M := Lib.hid M'; clear M') | ((with_reducible show wpList _ _ _ (⟨_, _, _, _, _, none⟩ :: _) _ _); first | (refine Mine.wp_make (M.out.own (own_emptyC _) ((Ext.refl' _).al _)) rfl _ _ 59 rfl 4 _ _ _ Try.underlying59 Try.infoBool N (by rw [HNN.out]; rfl) (by rw [HNN.out]; rfl) (by have := HNN.out; omega) (by have := HNN.out; unfold maxLen; omega) ?_; intro gv w' M'; rw [bits_nil] at M'; replace M := Lib.hid M'; clear M')))
  go_ret2
  rw [lineO_yes HV.out HOK.out, ← allFit_spec HOK.out]
  first | exact ⟨_, _, _, rfl, M.out.row_at 1 rfl, M.out.ext⟩ | exact ⟨B', m', d', rfl, M.out.row_at 1 rfl, M.out.ext⟩
end Go.Proofs.Ytcnkmbofpppfaaa
