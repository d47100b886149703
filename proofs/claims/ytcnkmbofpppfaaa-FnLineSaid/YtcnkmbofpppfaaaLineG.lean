/- fitting, with each of the two takers: it hands them the full orders that fit, one after the other. No condition but sizes. -/
import Derived.Test.YtcnkmbofpppfaaaLineC
namespace Go.Proofs.Ytcnkmbofpppfaaa
open Go.RowKit Go.Deep
set_option linter.unusedSimpArgs false
set_option linter.unusedVariables false

/-- A parameter of one cell gets its variable. -/
theorem Mine.wp_boxc {P : Program} {ops : Array Oper} {rest : List Oper} {o : Oper} {a : Act} {Q : Exit → Act → World → Prop} {b w : World} {rs : List Res} (M : Mine b w rs) (hgd : o.guard = none) (ty : TypeId) (x : Operand) (ho : o.op = .box ty x) (v : Value) (hx : a.eval x = v) (hv : v.cells = #[v])
    (h : ∀ g w', Mine b w' (.box g ty #[v] :: rs) → wpList P ops Q rest (a.put o.dst (.pointer (some ⟨g, 0, none⟩))) w') : wpList P ops Q (o :: rest) a w :=
  wpList_plain hgd fun _ hK => by
    have := h _ _ (M.box ty #[v])
    unfold Oper.wp execOp
    simp [ho, hx, Instr.box, newVar, newRow, hv]
    exact hK _ _ this
theorem fold_next {σ : Type} {stp : σ → Leaf → σ × Bool} {l : List Call} {ok : List Nat → Int → Nat → Bool} {rec : List Nat → Int → List Leaf} {p : List Nat} {v : Int} {k : Nat} {s s' : σ} (h : foldU stp s (leavesTo l ok rec p v k) = (s', false)) (hk : ok p v k = true) :
    foldU stp s (leavesTo l ok rec p v (k + 1)) = foldU stp s' (rec (p ++ [k]) (nxt l v k)) := by
  rw [leavesTo_yes hk, foldU_append, h]
  rfl
theorem fold_skip {σ : Type} {stp : σ → Leaf → σ × Bool} {l : List Call} {ok : List Nat → Int → Nat → Bool} {rec : List Nat → Int → List Leaf} {p : List Nat} {v : Int} {k : Nat} {s s' : σ} (h : foldU stp s (leavesTo l ok rec p v k) = (s', false)) (hk : ok p v k = false) :
    foldU stp s (leavesTo l ok rec p v (k + 1)) = (s', false) := by
  rw [leavesTo_no hk, h]
theorem fold_stop {σ : Type} {stp : σ → Leaf → σ × Bool} {l : List Call} {ok : List Nat → Int → Nat → Bool} {rec : List Nat → Int → List Leaf} {p : List Nat} {v : Int} {k : Nat} {s x : σ} (h : foldU stp s (leavesTo l ok rec p v k) = (x, true)) : ∀ n, k ≤ n → foldU stp s (leavesTo l ok rec p v n) = (x, true)
  | 0, hn => by obtain rfl : k = 0 := by omega
                exact h
  | n + 1, hn => by
    by_cases e : k = n + 1
    · subst e; exact h
    · have ih := fold_stop h n (by omega)
      rw [show leavesTo l ok rec p v (n + 1) = leavesTo l ok rec p v n ++ (if ok p v n = true then rec (p ++ [n]) (nxt l v n) else []) from rfl, foldU_append, ih]
      rfl

set_option maxRecDepth 4000 in
set_option maxHeartbeats 16000000 in
theorem fitO_any {l : List Call} (hok : callsOk l = true) {b : World} {Al : Option Addr} {nl cl : Nat} {S : Nat → Prop} (hl : Sl b S 5 Al nl (l.flatMap Call.cells)) {go : Nat} : ∀ (f : Nat) (w : World) (B : Option Addr) (m d : Nat) (s : List Int) (Ap : Option Addr) (np cp : Nat) (p : List Nat) (v : Int) (fr : List Res)
    (_ : p.length + f = l.length) (_ : ∀ x ∈ p, x < l.length) (_ : s.length + (leaves l (okI l) f p v).length ≤ 1000000) (_ : Mine b w (.box go 36 (#[.slice B m d] : Array Value) :: .row 3 1 B m d (ints s) :: .row 3 1 Ap np cp (ints (nz p)) :: fr)),
    Calls Try.prog 44 #[.int .i64 v, .slice Al nl cl, .slice Ap np cp, .func (.func 45) #[] #[.pointer (some ⟨go, 0, none⟩)]] w fun e w' => ∃ B' m' d', e = .returned (.bool (foldU stpO s (leaves l (okI l) f p v)).2) ∧ Mine b w' (.box go 36 (#[.slice B' m' d'] : Array Value) :: .row 3 1 B' m' d' (ints (foldU stpO s (leaves l (okI l) f p v)).1) :: .row 3 1 Ap np cp (ints (nz p)) :: fr) := by
  intro f
  induction f with
  | zero =>
    intro w B m d s Ap np cp p v fr hpl hpr hroom M0
    have hl7 := callsOk_len hok
    have hnl : l.length = nl := hl.flen Call.cells_length (by omega)
    have hnp := M0.len1 2 rfl
    rw [ints_length, nz_length] at hnp
    have M := Lib.hid M0
    clear M0
    have HLS := Lib.hid hl
    have HPR := Lib.hid hpr
    have hsm : s.length ≤ 1000000 := by simp [leaves] at hroom; omega
    have b0 : ((np : Int) == (nl : Int)) = true := by simp; omega
    clear hroom hpr hl
    go_enter Try.func44, Try.ntmps44
    go_wp2_with (first | (go_at_call 45; (with_reducible refine (takeO_any M.out Ap np cp p v _ (M.out.row_sl 2 rfl) (by omega) hsm).mono ?_); rintro e w2 ⟨B2, m2, d2, rfl, M'⟩; replace M := Lib.hid M'; clear M') | ((with_reducible show wpList _ _ _ (⟨_, _, _, _, _, none⟩ :: _) _ _); first | (refine Mine.wp_boxc M.out rfl 32 _ rfl (.slice Al nl cl) rfl rfl ?_; intro gl w' M'; replace M := Lib.hid (M'.sink [_, _, _]); clear M'; simp only [List.cons_append, List.nil_append] at M) | (refine Mine.wp_get M.out rfl _ _ rfl 3 _ rfl rfl _ rfl _ (by first | exact Try.underlying32) (by rfl) ?_; (try simp only [Act.put, List.setIfInBounds_toArray, List.set_cons_zero, List.set_cons_succ, List.drop_succ_cons, List.drop_zero, List.take_succ_cons, List.take_zero, putAt, ints_set, ints_push, List.getElem_toArray, List.getElem_cons_zero, List.getElem_cons_succ]))))
    go_ret
    rw [show leaves l (okI l) 0 p v = [(p, v)] from rfl, foldU_one]
    have M9 := M.out.drop_at [_, _, _]
    first | exact ⟨_, _, _, rfl, M9⟩ | exact ⟨rfl, _, _, _, M9⟩
  | succ f ih =>
    intro w B m d s Ap np cp p v fr hpl hpr hroom M0
    have IH := Lib.hid ih
    clear ih
    have hl7 := callsOk_len hok
    have hnl : l.length = nl := hl.flen Call.cells_length (by omega)
    have hnp := M0.len1 2 rfl
    rw [ints_length, nz_length] at hnp
    have M := Lib.hid M0
    clear M0
    have HLS := Lib.hid hl
    have HPR := Lib.hid hpr
    have HROOM := Lib.hid hroom
    clear hroom hpr hl
    have b0 : ((np : Int) == (nl : Int)) = false := by simp; omega
    go_enter Try.func44, Try.ntmps44
    go_wp2_with (first | ((with_reducible show wpList _ _ _ (⟨_, _, _, _, _, none⟩ :: _) _ _); first | (refine Mine.wp_boxc M.out rfl 32 _ rfl (.slice Al nl cl) rfl rfl ?_; intro gl w' M'; replace M := Lib.hid (M'.sink [_, _, _]); clear M'; simp only [List.cons_append, List.nil_append] at M) | (refine Mine.wp_get M.out rfl _ _ rfl 3 _ rfl rfl _ rfl _ (by first | exact Try.underlying32) (by rfl) ?_; (try simp only [Act.put, List.setIfInBounds_toArray, List.set_cons_zero, List.set_cons_succ, List.drop_succ_cons, List.drop_zero, List.take_succ_cons, List.take_zero, putAt, ints_set, ints_push, List.getElem_toArray, List.getElem_cons_zero, List.getElem_cons_succ]))))
    go_loopw [25] (fun i wr => ∃ (k m d : Nat) (B : Option Addr) (s' : List Int), k ≤ nl ∧ i = .int .i64 k ∧ Hid (foldU stpO s (leavesTo l (okI l) (leaves l (okI l) f) p v k) = (s', false)) ∧ Hid (Mine b wr (.box go 36 (#[.slice B m d] : Array Value) :: .row 3 1 B m d (ints s') :: .row 3 1 Ap np cp (ints (nz p)) :: .box gl 32 (#[.slice Al nl cl] : Array Value) :: fr))) (fun i _ => nl - (intOf i).toNat)
    case atStart => exact ⟨0, m, d, B, s, Nat.zero_le _, rfl, rfl, M⟩
    case round =>
      clear M
      obtain ⟨k, m, d, B, s', hk, rfl, HF, M⟩ := hrel
      by_cases hlt : (k : Int) < (nl : Int)
      rotate_left
      · have ek : k = l.length := by omega
        go_wp2
        go_ret
        have h := HF.out
        rw [ek] at h
        rw [show leaves l (okI l) (f + 1) p v = leavesTo l (okI l) (leaves l (okI l) f) p v l.length from rfl, h]
        have M9 := M.out.drop_at [_, _, _]
        first | exact ⟨_, _, _, rfl, M9⟩ | exact ⟨rfl, _, _, _, M9⟩
      have HK1 : Hid (k < nl) := by show _ < _; omega
      obtain ⟨bl, ol, x, rfl, hbl, hx, hcl⟩ := (HLS.out.ext M.out.ext).flat_at Call.cells_length (by omega) (show k < nl by omega)
      have HCC := Lib.hid (cc_of hx)
      obtain ⟨x0, x1, x2, x3, x4⟩ := x
      have q0 := hcl 0 (by omega)
      have q1 := hcl 1 (by omega)
      have q2 := hcl 2 (by omega)
      have q3 := hcl 3 (by omega)
      have q4 := hcl 4 (by omega)
      simp only [Call.cells, List.getElem?_cons_zero, List.getElem?_cons_succ, Nat.add_zero] at q0 q1 q2 q3 q4
      clear hcl hx
      obtain ⟨⟨Y1, Y2⟩, hY⟩ : ∃ Y : Int × Int, callDo v x2 x3 = Y := ⟨_, rfl⟩
      have HY := Lib.hid hY
      clear hY
      have HOK : Hid (okI l p v k = dec (lateFree l p x1 ∧ Y2 = x4 ∧ k ∉ p)) := by show dec (lateFree l p (cc l k).to_ ∧ retOk l v k ∧ k ∉ p) = _; unfold retOk; rw [HCC.out, HY.out]
      have HNX : Hid (nxt l v k = Y1) := by show _ = _; unfold nxt; rw [HCC.out, HY.out]
      by_cases hl0 : lateFree l p x1
      rotate_left
      · have hno : Hid (¬ (lateFree l p x1 ∧ Y2 = x4 ∧ k ∉ p)) := fun h => hl0 h.1
        have HL0 := Lib.hid hl0
        clear hl0
        go_wp2_with (first | (go_at_call 53; (with_reducible refine (anyLate_any gc gl _ nl cl l Ap np cp p x1 _ S _ (((M.out.box_at 3 rfl).cell 1).trans rfl) (((M.out.box_at 4 rfl).cell 0).trans rfl) (HLS.out.ext M.out.ext) (by omega) (M.out.row_sl 2 rfl) (fun z hz => by have := HPR.out z hz; omega) (by omega)).mono ?_); rintro e w2 ⟨rfl, x2_⟩; replace M := Lib.hid (M.out.on x2_); clear x2_; rw [dec_no HL0.out]) | (go_at_call 12; (with_reducible refine (impl_CallDo v x0 x1 x2 x3 x4 _).mono ?_); rintro e w2 ⟨rfl, x2_⟩; replace M := Lib.hid (M.out.on x2_); clear x2_; rw [HY.out]) | ((with_reducible show wpList _ _ _ (⟨_, _, _, _, _, none⟩ :: _) _ _); first | (refine Mine.wp_alloc M.out rfl 26 rfl (.agg #[.int .i64 0, .int .i64 0, .int .i64 0, .int .i64 0, .int .i64 0]) (by kernel_rfl) ?_; intro gc w' M'; (try simp only [Value.cells, Act.put, List.setIfInBounds_toArray, List.set_cons_zero, List.set_cons_succ, List.drop_succ_cons, List.drop_zero, List.take_succ_cons, List.take_zero, putAt, ints_set, ints_push, List.getElem_toArray, List.getElem_cons_zero, List.getElem_cons_succ] at M'); replace M := Lib.hid (M'.sink [_, _, _]); clear M'; simp only [List.cons_append, List.nil_append] at M; (try simp only [Act.put, List.setIfInBounds_toArray, List.set_cons_zero, List.set_cons_succ, List.drop_succ_cons, List.drop_zero, List.take_succ_cons, List.take_zero, putAt, ints_set, ints_push, List.getElem_toArray, List.getElem_cons_zero, List.getElem_cons_succ])) | (refine Mine.wp_sets M.out rfl 26 _ _ rfl rfl 3 _ rfl rfl _ rfl (Nat.le_of_ble_eq_true rfl) (by simp [Value.oneCell']) (by kernel_rfl) ?_; intro w' M'; (try simp only [Act.put, List.setIfInBounds_toArray, List.set_cons_zero, List.set_cons_succ, List.drop_succ_cons, List.drop_zero, List.take_succ_cons, List.take_zero, putAt, ints_set, ints_push, List.getElem_toArray, List.getElem_cons_zero, List.getElem_cons_succ] at M'); replace M := Lib.hid M'; clear M') | (refine Mine.wp_gets M.out rfl 26 _ rfl 3 _ 5 rfl rfl (Nat.le_of_ble_eq_true rfl) _ Try.underlying26 (by rfl) (by kernel_rfl) ?_; (try simp only [Act.put, List.setIfInBounds_toArray, List.set_cons_zero, List.set_cons_succ, List.drop_succ_cons, List.drop_zero, List.take_succ_cons, List.take_zero, putAt, ints_set, ints_push, List.getElem_toArray, List.getElem_cons_zero, List.getElem_cons_succ])) | (refine Mine.wp_get M.out rfl _ _ rfl 3 _ rfl rfl _ rfl _ (by first | exact Try.underlying3) (by rfl) ?_; (try simp only [Act.put, List.setIfInBounds_toArray, List.set_cons_zero, List.set_cons_succ, List.drop_succ_cons, List.drop_zero, List.take_succ_cons, List.take_zero, putAt, ints_set, ints_push, List.getElem_toArray, List.getElem_cons_zero, List.getElem_cons_succ]))) | ((with_reducible show wpList _ _ _ (⟨_, .load _ _, _, _, _, some _⟩ :: _) _ _); first | (refine Mine.wp_getg M.out (by rfl) _ _ rfl 3 _ rfl rfl _ rfl _ (by first | exact Try.underlying3) (by rfl) ?_; (try simp only [Act.put, List.setIfInBounds_toArray, List.set_cons_zero, List.set_cons_succ, List.drop_succ_cons, List.drop_zero, List.take_succ_cons, List.take_zero, putAt, ints_set, ints_push, List.getElem_toArray, List.getElem_cons_zero, List.getElem_cons_succ]))))
        go_roundw
        case rel => exact ⟨k + 1, m, d, B, s', HK1.out, by go_num, Lib.hid (fold_skip HF.out (by rw [HOK.out]; exact dec_no hno.out)), M.out.drop_at [_, _, _]⟩
        case measure => have := HK1.out; simp [intOf]; omega
      have HL0 := Lib.hid hl0
      clear hl0
      by_cases hr0 : Y2 = x4
      rotate_left
      · have hno : Hid (¬ (lateFree l p x1 ∧ Y2 = x4 ∧ k ∉ p)) := fun h => hr0 h.2.1
        have br : (Y2 != x4) = true := by simpa using hr0
        clear hr0
        go_wp2_with (first | (go_at_call 53; (with_reducible refine (anyLate_any gc gl _ nl cl l Ap np cp p x1 _ S _ (((M.out.box_at 3 rfl).cell 1).trans rfl) (((M.out.box_at 4 rfl).cell 0).trans rfl) (HLS.out.ext M.out.ext) (by omega) (M.out.row_sl 2 rfl) (fun z hz => by have := HPR.out z hz; omega) (by omega)).mono ?_); rintro e w2 ⟨rfl, x2_⟩; replace M := Lib.hid (M.out.on x2_); clear x2_; rw [dec_yes HL0.out]) | (go_at_call 12; (with_reducible refine (impl_CallDo v x0 x1 x2 x3 x4 _).mono ?_); rintro e w2 ⟨rfl, x2_⟩; replace M := Lib.hid (M.out.on x2_); clear x2_; rw [HY.out]) | ((with_reducible show wpList _ _ _ (⟨_, _, _, _, _, none⟩ :: _) _ _); first | (refine Mine.wp_alloc M.out rfl 26 rfl (.agg #[.int .i64 0, .int .i64 0, .int .i64 0, .int .i64 0, .int .i64 0]) (by kernel_rfl) ?_; intro gc w' M'; (try simp only [Value.cells, Act.put, List.setIfInBounds_toArray, List.set_cons_zero, List.set_cons_succ, List.drop_succ_cons, List.drop_zero, List.take_succ_cons, List.take_zero, putAt, ints_set, ints_push, List.getElem_toArray, List.getElem_cons_zero, List.getElem_cons_succ] at M'); replace M := Lib.hid (M'.sink [_, _, _]); clear M'; simp only [List.cons_append, List.nil_append] at M; (try simp only [Act.put, List.setIfInBounds_toArray, List.set_cons_zero, List.set_cons_succ, List.drop_succ_cons, List.drop_zero, List.take_succ_cons, List.take_zero, putAt, ints_set, ints_push, List.getElem_toArray, List.getElem_cons_zero, List.getElem_cons_succ])) | (refine Mine.wp_sets M.out rfl 26 _ _ rfl rfl 3 _ rfl rfl _ rfl (Nat.le_of_ble_eq_true rfl) (by simp [Value.oneCell']) (by kernel_rfl) ?_; intro w' M'; (try simp only [Act.put, List.setIfInBounds_toArray, List.set_cons_zero, List.set_cons_succ, List.drop_succ_cons, List.drop_zero, List.take_succ_cons, List.take_zero, putAt, ints_set, ints_push, List.getElem_toArray, List.getElem_cons_zero, List.getElem_cons_succ] at M'); replace M := Lib.hid M'; clear M') | (refine Mine.wp_gets M.out rfl 26 _ rfl 3 _ 5 rfl rfl (Nat.le_of_ble_eq_true rfl) _ Try.underlying26 (by rfl) (by kernel_rfl) ?_; (try simp only [Act.put, List.setIfInBounds_toArray, List.set_cons_zero, List.set_cons_succ, List.drop_succ_cons, List.drop_zero, List.take_succ_cons, List.take_zero, putAt, ints_set, ints_push, List.getElem_toArray, List.getElem_cons_zero, List.getElem_cons_succ])) | (refine Mine.wp_get M.out rfl _ _ rfl 3 _ rfl rfl _ rfl _ (by first | exact Try.underlying3) (by rfl) ?_; (try simp only [Act.put, List.setIfInBounds_toArray, List.set_cons_zero, List.set_cons_succ, List.drop_succ_cons, List.drop_zero, List.take_succ_cons, List.take_zero, putAt, ints_set, ints_push, List.getElem_toArray, List.getElem_cons_zero, List.getElem_cons_succ]))) | ((with_reducible show wpList _ _ _ (⟨_, .load _ _, _, _, _, some _⟩ :: _) _ _); first | (refine Mine.wp_getg M.out (by rfl) _ _ rfl 3 _ rfl rfl _ rfl _ (by first | exact Try.underlying3) (by rfl) ?_; (try simp only [Act.put, List.setIfInBounds_toArray, List.set_cons_zero, List.set_cons_succ, List.drop_succ_cons, List.drop_zero, List.take_succ_cons, List.take_zero, putAt, ints_set, ints_push, List.getElem_toArray, List.getElem_cons_zero, List.getElem_cons_succ]))))
        go_roundw
        case rel => exact ⟨k + 1, m, d, B, s', HK1.out, by go_num, Lib.hid (fold_skip HF.out (by rw [HOK.out]; exact dec_no hno.out)), M.out.drop_at [_, _, _]⟩
        case measure => have := HK1.out; simp [intOf]; omega
      have br : (Y2 != x4) = false := by simpa using hr0
      have HR0 := Lib.hid hr0
      clear hr0
      by_cases hm0 : k ∈ p
      · have hno : Hid (¬ (lateFree l p x1 ∧ Y2 = x4 ∧ k ∉ p)) := fun h => h.2.2 hm0
        have HM0 := Lib.hid hm0
        clear hm0
        go_wp2_with (first | (go_at_call 53; (with_reducible refine (anyLate_any gc gl _ nl cl l Ap np cp p x1 _ S _ (((M.out.box_at 3 rfl).cell 1).trans rfl) (((M.out.box_at 4 rfl).cell 0).trans rfl) (HLS.out.ext M.out.ext) (by omega) (M.out.row_sl 2 rfl) (fun z hz => by have := HPR.out z hz; omega) (by omega)).mono ?_); rintro e w2 ⟨rfl, x2_⟩; replace M := Lib.hid (M.out.on x2_); clear x2_; rw [dec_yes HL0.out]) | (go_at_call 12; (with_reducible refine (impl_CallDo v x0 x1 x2 x3 x4 _).mono ?_); rintro e w2 ⟨rfl, x2_⟩; replace M := Lib.hid (M.out.on x2_); clear x2_; rw [HY.out]) | (go_at_call 52; (with_reducible refine (Contains_any Ap np cp (nz p) (k : Int) _ _ (M.out.row_sl 2 rfl) (by omega)).mono ?_); rintro e w2 ⟨rfl, rfl⟩; rw [dec_yes (nz_mem.2 HM0.out)]) | ((with_reducible show wpList _ _ _ (⟨_, _, _, _, _, none⟩ :: _) _ _); first | (refine Mine.wp_alloc M.out rfl 26 rfl (.agg #[.int .i64 0, .int .i64 0, .int .i64 0, .int .i64 0, .int .i64 0]) (by kernel_rfl) ?_; intro gc w' M'; (try simp only [Value.cells, Act.put, List.setIfInBounds_toArray, List.set_cons_zero, List.set_cons_succ, List.drop_succ_cons, List.drop_zero, List.take_succ_cons, List.take_zero, putAt, ints_set, ints_push, List.getElem_toArray, List.getElem_cons_zero, List.getElem_cons_succ] at M'); replace M := Lib.hid (M'.sink [_, _, _]); clear M'; simp only [List.cons_append, List.nil_append] at M; (try simp only [Act.put, List.setIfInBounds_toArray, List.set_cons_zero, List.set_cons_succ, List.drop_succ_cons, List.drop_zero, List.take_succ_cons, List.take_zero, putAt, ints_set, ints_push, List.getElem_toArray, List.getElem_cons_zero, List.getElem_cons_succ])) | (refine Mine.wp_sets M.out rfl 26 _ _ rfl rfl 3 _ rfl rfl _ rfl (Nat.le_of_ble_eq_true rfl) (by simp [Value.oneCell']) (by kernel_rfl) ?_; intro w' M'; (try simp only [Act.put, List.setIfInBounds_toArray, List.set_cons_zero, List.set_cons_succ, List.drop_succ_cons, List.drop_zero, List.take_succ_cons, List.take_zero, putAt, ints_set, ints_push, List.getElem_toArray, List.getElem_cons_zero, List.getElem_cons_succ] at M'); replace M := Lib.hid M'; clear M') | (refine Mine.wp_gets M.out rfl 26 _ rfl 3 _ 5 rfl rfl (Nat.le_of_ble_eq_true rfl) _ Try.underlying26 (by rfl) (by kernel_rfl) ?_; (try simp only [Act.put, List.setIfInBounds_toArray, List.set_cons_zero, List.set_cons_succ, List.drop_succ_cons, List.drop_zero, List.take_succ_cons, List.take_zero, putAt, ints_set, ints_push, List.getElem_toArray, List.getElem_cons_zero, List.getElem_cons_succ])) | (refine Mine.wp_get M.out rfl _ _ rfl 3 _ rfl rfl _ rfl _ (by first | exact Try.underlying3) (by rfl) ?_; (try simp only [Act.put, List.setIfInBounds_toArray, List.set_cons_zero, List.set_cons_succ, List.drop_succ_cons, List.drop_zero, List.take_succ_cons, List.take_zero, putAt, ints_set, ints_push, List.getElem_toArray, List.getElem_cons_zero, List.getElem_cons_succ]))) | ((with_reducible show wpList _ _ _ (⟨_, .load _ _, _, _, _, some _⟩ :: _) _ _); first | (refine Mine.wp_getg M.out (by rfl) _ _ rfl 3 _ rfl rfl _ rfl _ (by first | exact Try.underlying3) (by rfl) ?_; (try simp only [Act.put, List.setIfInBounds_toArray, List.set_cons_zero, List.set_cons_succ, List.drop_succ_cons, List.drop_zero, List.take_succ_cons, List.take_zero, putAt, ints_set, ints_push, List.getElem_toArray, List.getElem_cons_zero, List.getElem_cons_succ]))))
        go_roundw
        case rel => exact ⟨k + 1, m, d, B, s', HK1.out, by go_num, Lib.hid (fold_skip HF.out (by rw [HOK.out]; exact dec_no hno.out)), M.out.drop_at [_, _, _]⟩
        case measure => have := HK1.out; simp [intOf]; omega
      have HYES : Hid (okI l p v k = true) := by show _ = _; rw [HOK.out]; exact dec_yes ⟨HL0.out, HR0.out, hm0⟩
      have HM0 := Lib.hid hm0
      clear hm0
      go_wp2_with (first | (go_at_call 53; (with_reducible refine (anyLate_any gc gl _ nl cl l Ap np cp p x1 _ S _ (((M.out.box_at 3 rfl).cell 1).trans rfl) (((M.out.box_at 4 rfl).cell 0).trans rfl) (HLS.out.ext M.out.ext) (by omega) (M.out.row_sl 2 rfl) (fun z hz => by have := HPR.out z hz; omega) (by omega)).mono ?_); rintro e w2 ⟨rfl, x2_⟩; replace M := Lib.hid (M.out.on x2_); clear x2_; rw [dec_yes HL0.out]) | (go_at_call 12; (with_reducible refine (impl_CallDo v x0 x1 x2 x3 x4 _).mono ?_); rintro e w2 ⟨rfl, x2_⟩; replace M := Lib.hid (M.out.on x2_); clear x2_; rw [HY.out]) | (go_at_call 52; (with_reducible refine (Contains_any Ap np cp (nz p) (k : Int) _ _ (M.out.row_sl 2 rfl) (by omega)).mono ?_); rintro e w2 ⟨rfl, rfl⟩; rw [dec_no (fun q => HM0.out (nz_mem.1 q))]) | ((with_reducible show wpList _ _ _ (⟨_, _, _, _, _, none⟩ :: _) _ _); first | (refine Mine.wp_alloc M.out rfl 26 rfl (.agg #[.int .i64 0, .int .i64 0, .int .i64 0, .int .i64 0, .int .i64 0]) (by kernel_rfl) ?_; intro gc w' M'; (try simp only [Value.cells, Act.put, List.setIfInBounds_toArray, List.set_cons_zero, List.set_cons_succ, List.drop_succ_cons, List.drop_zero, List.take_succ_cons, List.take_zero, putAt, ints_set, ints_push, List.getElem_toArray, List.getElem_cons_zero, List.getElem_cons_succ] at M'); replace M := Lib.hid (M'.sink [_, _, _]); clear M'; simp only [List.cons_append, List.nil_append] at M; (try simp only [Act.put, List.setIfInBounds_toArray, List.set_cons_zero, List.set_cons_succ, List.drop_succ_cons, List.drop_zero, List.take_succ_cons, List.take_zero, putAt, ints_set, ints_push, List.getElem_toArray, List.getElem_cons_zero, List.getElem_cons_succ])) | (refine Mine.wp_sets M.out rfl 26 _ _ rfl rfl 3 _ rfl rfl _ rfl (Nat.le_of_ble_eq_true rfl) (by simp [Value.oneCell']) (by kernel_rfl) ?_; intro w' M'; (try simp only [Act.put, List.setIfInBounds_toArray, List.set_cons_zero, List.set_cons_succ, List.drop_succ_cons, List.drop_zero, List.take_succ_cons, List.take_zero, putAt, ints_set, ints_push, List.getElem_toArray, List.getElem_cons_zero, List.getElem_cons_succ] at M'); replace M := Lib.hid M'; clear M') | (refine Mine.wp_gets M.out rfl 26 _ rfl 3 _ 5 rfl rfl (Nat.le_of_ble_eq_true rfl) _ Try.underlying26 (by rfl) (by kernel_rfl) ?_; (try simp only [Act.put, List.setIfInBounds_toArray, List.set_cons_zero, List.set_cons_succ, List.drop_succ_cons, List.drop_zero, List.take_succ_cons, List.take_zero, putAt, ints_set, ints_push, List.getElem_toArray, List.getElem_cons_zero, List.getElem_cons_succ])) | (refine Mine.wp_get M.out rfl _ _ rfl 3 _ rfl rfl _ rfl _ (by first | exact Try.underlying3) (by rfl) ?_; (try simp only [Act.put, List.setIfInBounds_toArray, List.set_cons_zero, List.set_cons_succ, List.drop_succ_cons, List.drop_zero, List.take_succ_cons, List.take_zero, putAt, ints_set, ints_push, List.getElem_toArray, List.getElem_cons_zero, List.getElem_cons_succ]))) | ((with_reducible show wpList _ _ _ (⟨_, .load _ _, _, _, _, some _⟩ :: _) _ _); first | (refine Mine.wp_getg M.out (by rfl) _ _ rfl 3 _ rfl rfl _ rfl _ (by first | exact Try.underlying3) (by rfl) ?_; (try simp only [Act.put, List.setIfInBounds_toArray, List.set_cons_zero, List.set_cons_succ, List.drop_succ_cons, List.drop_zero, List.take_succ_cons, List.take_zero, putAt, ints_set, ints_push, List.getElem_toArray, List.getElem_cons_zero, List.getElem_cons_succ]))))
      clear q0 q1 q2 q3 q4 br
      refine Mine.region_head M.out 8 (by kernel_rfl) (by kernel_rfl) ?_
      intro w' M'
      replace M := Lib.hid M'
      clear M'
      refine HQ.take (i := 0) rfl (by kernel_rfl) (by kernel_rfl) (by kernel_rfl) (by omega) rfl (fun _ _ _ _ h => h) ?_
      intro K hK
      (first | (refine Mine.rd_get _ _ rfl 4 _ rfl rfl _ rfl _ (by first | exact Try.underlying32) (by rfl) ?_; (try simp only [Act.put, List.setIfInBounds_toArray, List.set_cons_zero, List.set_cons_succ, List.drop_succ_cons, List.drop_zero, List.take_succ_cons, List.take_zero, putAt, ints_set, ints_push, List.getElem_toArray, List.getElem_cons_zero, List.getElem_cons_succ]); go_big_quiet_on) | (unfold Reads; apply Exists.intro; refine ⟨fun wq hq => ?_, ?_⟩; (clear hq; go_simp; first | done | rfl); (try simp only [Act.put, List.setIfInBounds_toArray, List.set_cons_succ, List.set_cons_zero]); go_big_quiet_on))
      refine HQ.take (i := 1) rfl (by kernel_rfl) (by kernel_rfl) (by kernel_rfl) (by omega) rfl (fun _ _ _ _ h => h) ?_
      intro K hK
      (first | (refine Mine.rd_get _ _ rfl 4 _ rfl rfl _ rfl _ (by first | exact Try.underlying32) (by rfl) ?_; (try simp only [Act.put, List.setIfInBounds_toArray, List.set_cons_zero, List.set_cons_succ, List.drop_succ_cons, List.drop_zero, List.take_succ_cons, List.take_zero, putAt, ints_set, ints_push, List.getElem_toArray, List.getElem_cons_zero, List.getElem_cons_succ]); go_big_quiet_on) | (unfold Reads; apply Exists.intro; refine ⟨fun wq hq => ?_, ?_⟩; (clear hq; go_simp; first | done | rfl); (try simp only [Act.put, List.setIfInBounds_toArray, List.set_cons_succ, List.set_cons_zero]); go_big_quiet_on))
      refine HQ.take (i := 2) rfl (by kernel_rfl) (by kernel_rfl) (by kernel_rfl) (by omega) rfl (fun _ _ _ _ h => h) ?_
      intro K hK
      (first | (refine Mine.rd_get _ _ rfl 4 _ rfl rfl _ rfl _ (by first | exact Try.underlying32) (by rfl) ?_; (try simp only [Act.put, List.setIfInBounds_toArray, List.set_cons_zero, List.set_cons_succ, List.drop_succ_cons, List.drop_zero, List.take_succ_cons, List.take_zero, putAt, ints_set, ints_push, List.getElem_toArray, List.getElem_cons_zero, List.getElem_cons_succ]); go_big_quiet_on) | (unfold Reads; apply Exists.intro; refine ⟨fun wq hq => ?_, ?_⟩; (clear hq; go_simp; first | done | rfl); (try simp only [Act.put, List.setIfInBounds_toArray, List.set_cons_succ, List.set_cons_zero]); go_big_quiet_on))
      refine HQ.take (i := 4) rfl (by kernel_rfl) (by kernel_rfl) (by kernel_rfl) (by omega) rfl (fun _ _ _ _ h => h) ?_
      intro K hK
      (first | (refine Mine.rd_get _ _ rfl 4 _ rfl rfl _ rfl _ (by first | exact Try.underlying32) (by rfl) ?_; (try simp only [Act.put, List.setIfInBounds_toArray, List.set_cons_zero, List.set_cons_succ, List.drop_succ_cons, List.drop_zero, List.take_succ_cons, List.take_zero, putAt, ints_set, ints_push, List.getElem_toArray, List.getElem_cons_zero, List.getElem_cons_succ]); go_big_quiet_on) | (unfold Reads; apply Exists.intro; refine ⟨fun wq hq => ?_, ?_⟩; (clear hq; go_simp; first | done | rfl); (try simp only [Act.put, List.setIfInBounds_toArray, List.set_cons_succ, List.set_cons_zero]); go_big_quiet_on))
      refine HQ.take (i := 7) rfl (by kernel_rfl) (by kernel_rfl) (by kernel_rfl) (by omega) rfl (fun _ _ _ _ h => h) ?_
      intro K hK
      (first | (refine Mine.rd_get _ _ rfl 4 _ rfl rfl _ rfl _ (by first | exact Try.underlying32) (by rfl) ?_; (try simp only [Act.put, List.setIfInBounds_toArray, List.set_cons_zero, List.set_cons_succ, List.drop_succ_cons, List.drop_zero, List.take_succ_cons, List.take_zero, putAt, ints_set, ints_push, List.getElem_toArray, List.getElem_cons_zero, List.getElem_cons_succ]); go_big_quiet_on) | (unfold Reads; apply Exists.intro; refine ⟨fun wq hq => ?_, ?_⟩; (clear hq; go_simp; first | done | rfl); (try simp only [Act.put, List.setIfInBounds_toArray, List.set_cons_succ, List.set_cons_zero]); go_big_quiet_on))
      refine HQ.noisy (rs := [3, 5]) (by kernel_rfl) (by simp) (AllG.cons rfl (by omega) (fun K hK => ?_) (AllG.cons rfl (by omega) (fun K hK => ?_) AllG.nil))
      go_simp
      (go_at_call 46; (refine (copyInts_any Ap np cp (nz p) _ _ (M.out.row_sl 2 rfl) (by omega)).mono ?_); rintro e w2 ⟨B2, d2, rfl, o2, x2_⟩)
      replace M := Lib.hid (M.out.own o2 x2_)
      clear o2 x2_
      refine hK.out _ _ (M.out.tail) ?_
      clear hK K
      (try simp only [Act.put, List.setIfInBounds_toArray, List.set_cons_succ, List.set_cons_zero])
      refine HQ.noisy (rs := [5]) (by kernel_rfl) (by simp) (AllG.cons rfl (by omega) (fun K hK => ?_) AllG.nil)
      go_simp
      replace M := Lib.hid (M.out.box 3 #[.int .i64 (k : Int)])
      refine hK.out _ _ (M.out.tail.tail) ?_
      clear hK K
      (try simp only [Act.put, List.setIfInBounds_toArray, List.set_cons_succ, List.set_cons_zero])
      rotate_left
      go_simp
      replace M := Lib.hid (M.out.box 3 #[.int .i64 (k : Int)])
      refine hK.out _ _ (M.out.tail) ?_
      clear hK K
      (try simp only [Act.put, List.setIfInBounds_toArray, List.set_cons_succ, List.set_cons_zero])
      refine HQ.noisy (rs := [3]) (by kernel_rfl) (by simp) (AllG.cons rfl (by omega) (fun K hK => ?_) AllG.nil)
      go_simp
      (go_at_call 46; (refine (copyInts_any Ap np cp (nz p) _ _ (M.out.row_sl 3 rfl) (by omega)).mono ?_); rintro e w2 ⟨B2, d2, rfl, o2, x2_⟩)
      replace M := Lib.hid (M.out.own o2 x2_).flip'
      clear o2 x2_
      refine hK.out _ _ (M.out.tail.tail) ?_
      clear hK K
      (try simp only [Act.put, List.setIfInBounds_toArray, List.set_cons_succ, List.set_cons_zero])
      rotate_left
      all_goals (
        refine HQ.noisy (rs := [6]) (by kernel_rfl) (by simp) (AllG.cons rfl (by omega) (fun K hK => ?_) AllG.nil)
        refine Mine.step_pour M.out (by rfl) _ _ _ (by rfl) 3 _ _ _ Try.underlying36 Try.infoInt (by rfl) (by omega) 1 (by rfl) (by rfl) (fun _ => True) _ 1 1 [.int .i64 (k : Int)] (by rfl) (M.out.box_sl 0 rfl) (by simp [Value.oneCell']) (by omega) (by unfold maxLen; omega) ?_
        intro A2 c2 w' M'
        simp only [List.set_cons_succ, List.set_cons_zero, ints_push, nz_push] at M'
        replace M := Lib.hid M'.tail
        clear M'
        refine hK.out _ _ (M.out.tail) ?_
        clear hK K
        (try simp only [Act.put, List.setIfInBounds_toArray, List.set_cons_succ, List.set_cons_zero])
        refine HQ.end_ (by kernel_rfl) ?_
        simp only [List.drop_succ_cons, List.drop_zero]
        have hroom2 : s'.length + (leaves l (okI l) f (p ++ [k]) Y1).length ≤ 1000000 := by
          have h1 := foldO_len (L := leavesTo l (okI l) (leaves l (okI l) f) p v k) (s := s) (by rw [HF.out])
          rw [HF.out] at h1
          have h2 := leavesTo_room l (okI l) (leaves l (okI l) f) p v k l.length (by have := HK1.out; omega)
          rw [if_pos HYES.out, HNX.out] at h2
          have h3 := HROOM.out
          have h4 : leaves l (okI l) (f + 1) p v = leavesTo l (okI l) (leaves l (okI l) f) p v l.length := rfl
          rw [h4] at h3
          simp only at h1
          omega
        have HR2 := Lib.hid hroom2
        clear hroom2
        replace M := Lib.hid ((M.out.sink [_, _]))
        simp only [List.cons_append, List.nil_append] at M
        have hk7 := HK1.out
        go_wp2_with fail
        refine (IH.out _ _ _ _ s' _ _ _ (p ++ [k]) Y1 _ (by simp; omega) (fun z hz => by
          rcases List.mem_append.1 hz with q | q
          · exact HPR.out z q
          · simp at q; omega) HR2.out M.out).mono ?_
        rintro e w3 ⟨B3, m3, d3, rfl, M3⟩
        have HFN := Lib.hid (fold_next HF.out HYES.out)
        rw [HNX.out] at HFN
        obtain ⟨⟨s2, fb⟩, hFF⟩ : ∃ F : List Int × Bool, foldU stpO s' (leaves l (okI l) f (p ++ [k]) Y1) = F := ⟨_, rfl⟩
        rw [hFF] at M3 HFN
        rw [hFF]
        clear hFF
        have M4 := Lib.hid (M3.drop_at [_, _])
        simp only [List.cons_append, List.nil_append] at M4
        clear M M3
        cases fb
        · go_wp2
          go_roundw
          case rel => exact ⟨k + 1, m3, d3, B3, s2, HK1.out, by go_num, HFN, M4.out.drop_at [_, _, _]⟩
          case measure => have := HK1.out; simp [intOf]; omega
        · go_wp2
          go_ret
          have h := fold_stop HFN.out l.length (by have := HK1.out; omega)
          rw [show leaves l (okI l) (f + 1) p v = leavesTo l (okI l) (leaves l (okI l) f) p v l.length from rfl, h]
          have M9 := (M4.out.drop_at [_, _, _]).drop_at [_, _, _]
          first | exact ⟨_, _, _, rfl, M9⟩ | exact ⟨rfl, _, _, _, M9⟩)
set_option maxRecDepth 4000 in
set_option maxHeartbeats 16000000 in
theorem fitE_any {l : List Call} (hok : callsOk l = true) {b : World} {Al : Option Addr} {nl cl : Nat} {S : Nat → Prop} (hl : Sl b S 5 Al nl (l.flatMap Call.cells)) {go : Nat} : ∀ (f : Nat) (w : World) (B : Option Addr) (m d : Nat) (s : List Int) (Ap : Option Addr) (np cp : Nat) (p : List Nat) (v : Int) (fr : List Res)
    (_ : p.length + f = l.length) (_ : ∀ x ∈ p, x < l.length) (_ : s.length + (leaves l (okI l) f p v).length ≤ 1000000) (_ : Mine b w (.box go 36 (#[.slice B m d] : Array Value) :: .row 3 1 B m d (ints s) :: .row 3 1 Ap np cp (ints (nz p)) :: fr)),
    Calls Try.prog 44 #[.int .i64 v, .slice Al nl cl, .slice Ap np cp, .func (.func 47) #[] #[.pointer (some ⟨go, 0, none⟩)]] w fun e w' => ∃ B' m' d', e = .returned (.bool (foldU stpE s (leaves l (okI l) f p v)).2) ∧ Mine b w' (.box go 36 (#[.slice B' m' d'] : Array Value) :: .row 3 1 B' m' d' (ints (foldU stpE s (leaves l (okI l) f p v)).1) :: .row 3 1 Ap np cp (ints (nz p)) :: fr) := by
  intro f
  induction f with
  | zero =>
    intro w B m d s Ap np cp p v fr hpl hpr hroom M0
    have hl7 := callsOk_len hok
    have hnl : l.length = nl := hl.flen Call.cells_length (by omega)
    have hnp := M0.len1 2 rfl
    rw [ints_length, nz_length] at hnp
    have M := Lib.hid M0
    clear M0
    have HLS := Lib.hid hl
    have HPR := Lib.hid hpr
    have hsm : s.length ≤ 1000000 := by simp [leaves] at hroom; omega
    have b0 : ((np : Int) == (nl : Int)) = true := by simp; omega
    clear hroom hpr hl
    go_enter Try.func44, Try.ntmps44
    go_wp2_with (first | (go_at_call 47; (with_reducible refine (takeE_any M.out Ap np cp p v _ (M.out.row_sl 2 rfl) (by omega) hsm).mono ?_); rintro e w2 ⟨B2, m2, d2, rfl, M'⟩; replace M := Lib.hid M'; clear M') | ((with_reducible show wpList _ _ _ (⟨_, _, _, _, _, none⟩ :: _) _ _); first | (refine Mine.wp_boxc M.out rfl 32 _ rfl (.slice Al nl cl) rfl rfl ?_; intro gl w' M'; replace M := Lib.hid (M'.sink [_, _, _]); clear M'; simp only [List.cons_append, List.nil_append] at M) | (refine Mine.wp_get M.out rfl _ _ rfl 3 _ rfl rfl _ rfl _ (by first | exact Try.underlying32) (by rfl) ?_; (try simp only [Act.put, List.setIfInBounds_toArray, List.set_cons_zero, List.set_cons_succ, List.drop_succ_cons, List.drop_zero, List.take_succ_cons, List.take_zero, putAt, ints_set, ints_push, List.getElem_toArray, List.getElem_cons_zero, List.getElem_cons_succ]))))
    go_ret
    rw [show leaves l (okI l) 0 p v = [(p, v)] from rfl, foldU_one]
    have M9 := M.out.drop_at [_, _, _]
    first | exact ⟨_, _, _, rfl, M9⟩ | exact ⟨rfl, _, _, _, M9⟩
  | succ f ih =>
    intro w B m d s Ap np cp p v fr hpl hpr hroom M0
    have IH := Lib.hid ih
    clear ih
    have hl7 := callsOk_len hok
    have hnl : l.length = nl := hl.flen Call.cells_length (by omega)
    have hnp := M0.len1 2 rfl
    rw [ints_length, nz_length] at hnp
    have M := Lib.hid M0
    clear M0
    have HLS := Lib.hid hl
    have HPR := Lib.hid hpr
    have HROOM := Lib.hid hroom
    clear hroom hpr hl
    have b0 : ((np : Int) == (nl : Int)) = false := by simp; omega
    go_enter Try.func44, Try.ntmps44
    go_wp2_with (first | ((with_reducible show wpList _ _ _ (⟨_, _, _, _, _, none⟩ :: _) _ _); first | (refine Mine.wp_boxc M.out rfl 32 _ rfl (.slice Al nl cl) rfl rfl ?_; intro gl w' M'; replace M := Lib.hid (M'.sink [_, _, _]); clear M'; simp only [List.cons_append, List.nil_append] at M) | (refine Mine.wp_get M.out rfl _ _ rfl 3 _ rfl rfl _ rfl _ (by first | exact Try.underlying32) (by rfl) ?_; (try simp only [Act.put, List.setIfInBounds_toArray, List.set_cons_zero, List.set_cons_succ, List.drop_succ_cons, List.drop_zero, List.take_succ_cons, List.take_zero, putAt, ints_set, ints_push, List.getElem_toArray, List.getElem_cons_zero, List.getElem_cons_succ]))))
    go_loopw [25] (fun i wr => ∃ (k m d : Nat) (B : Option Addr) (s' : List Int), k ≤ nl ∧ i = .int .i64 k ∧ Hid (foldU stpE s (leavesTo l (okI l) (leaves l (okI l) f) p v k) = (s', false)) ∧ Hid (Mine b wr (.box go 36 (#[.slice B m d] : Array Value) :: .row 3 1 B m d (ints s') :: .row 3 1 Ap np cp (ints (nz p)) :: .box gl 32 (#[.slice Al nl cl] : Array Value) :: fr))) (fun i _ => nl - (intOf i).toNat)
    case atStart => exact ⟨0, m, d, B, s, Nat.zero_le _, rfl, rfl, M⟩
    case round =>
      clear M
      obtain ⟨k, m, d, B, s', hk, rfl, HF, M⟩ := hrel
      by_cases hlt : (k : Int) < (nl : Int)
      rotate_left
      · have ek : k = l.length := by omega
        go_wp2
        go_ret
        have h := HF.out
        rw [ek] at h
        rw [show leaves l (okI l) (f + 1) p v = leavesTo l (okI l) (leaves l (okI l) f) p v l.length from rfl, h]
        have M9 := M.out.drop_at [_, _, _]
        first | exact ⟨_, _, _, rfl, M9⟩ | exact ⟨rfl, _, _, _, M9⟩
      have HK1 : Hid (k < nl) := by show _ < _; omega
      obtain ⟨bl, ol, x, rfl, hbl, hx, hcl⟩ := (HLS.out.ext M.out.ext).flat_at Call.cells_length (by omega) (show k < nl by omega)
      have HCC := Lib.hid (cc_of hx)
      obtain ⟨x0, x1, x2, x3, x4⟩ := x
      have q0 := hcl 0 (by omega)
      have q1 := hcl 1 (by omega)
      have q2 := hcl 2 (by omega)
      have q3 := hcl 3 (by omega)
      have q4 := hcl 4 (by omega)
      simp only [Call.cells, List.getElem?_cons_zero, List.getElem?_cons_succ, Nat.add_zero] at q0 q1 q2 q3 q4
      clear hcl hx
      obtain ⟨⟨Y1, Y2⟩, hY⟩ : ∃ Y : Int × Int, callDo v x2 x3 = Y := ⟨_, rfl⟩
      have HY := Lib.hid hY
      clear hY
      have HOK : Hid (okI l p v k = dec (lateFree l p x1 ∧ Y2 = x4 ∧ k ∉ p)) := by show dec (lateFree l p (cc l k).to_ ∧ retOk l v k ∧ k ∉ p) = _; unfold retOk; rw [HCC.out, HY.out]
      have HNX : Hid (nxt l v k = Y1) := by show _ = _; unfold nxt; rw [HCC.out, HY.out]
      by_cases hl0 : lateFree l p x1
      rotate_left
      · have hno : Hid (¬ (lateFree l p x1 ∧ Y2 = x4 ∧ k ∉ p)) := fun h => hl0 h.1
        have HL0 := Lib.hid hl0
        clear hl0
        go_wp2_with (first | (go_at_call 53; (with_reducible refine (anyLate_any gc gl _ nl cl l Ap np cp p x1 _ S _ (((M.out.box_at 3 rfl).cell 1).trans rfl) (((M.out.box_at 4 rfl).cell 0).trans rfl) (HLS.out.ext M.out.ext) (by omega) (M.out.row_sl 2 rfl) (fun z hz => by have := HPR.out z hz; omega) (by omega)).mono ?_); rintro e w2 ⟨rfl, x2_⟩; replace M := Lib.hid (M.out.on x2_); clear x2_; rw [dec_no HL0.out]) | (go_at_call 12; (with_reducible refine (impl_CallDo v x0 x1 x2 x3 x4 _).mono ?_); rintro e w2 ⟨rfl, x2_⟩; replace M := Lib.hid (M.out.on x2_); clear x2_; rw [HY.out]) | ((with_reducible show wpList _ _ _ (⟨_, _, _, _, _, none⟩ :: _) _ _); first | (refine Mine.wp_alloc M.out rfl 26 rfl (.agg #[.int .i64 0, .int .i64 0, .int .i64 0, .int .i64 0, .int .i64 0]) (by kernel_rfl) ?_; intro gc w' M'; (try simp only [Value.cells, Act.put, List.setIfInBounds_toArray, List.set_cons_zero, List.set_cons_succ, List.drop_succ_cons, List.drop_zero, List.take_succ_cons, List.take_zero, putAt, ints_set, ints_push, List.getElem_toArray, List.getElem_cons_zero, List.getElem_cons_succ] at M'); replace M := Lib.hid (M'.sink [_, _, _]); clear M'; simp only [List.cons_append, List.nil_append] at M; (try simp only [Act.put, List.setIfInBounds_toArray, List.set_cons_zero, List.set_cons_succ, List.drop_succ_cons, List.drop_zero, List.take_succ_cons, List.take_zero, putAt, ints_set, ints_push, List.getElem_toArray, List.getElem_cons_zero, List.getElem_cons_succ])) | (refine Mine.wp_sets M.out rfl 26 _ _ rfl rfl 3 _ rfl rfl _ rfl (Nat.le_of_ble_eq_true rfl) (by simp [Value.oneCell']) (by kernel_rfl) ?_; intro w' M'; (try simp only [Act.put, List.setIfInBounds_toArray, List.set_cons_zero, List.set_cons_succ, List.drop_succ_cons, List.drop_zero, List.take_succ_cons, List.take_zero, putAt, ints_set, ints_push, List.getElem_toArray, List.getElem_cons_zero, List.getElem_cons_succ] at M'); replace M := Lib.hid M'; clear M') | (refine Mine.wp_gets M.out rfl 26 _ rfl 3 _ 5 rfl rfl (Nat.le_of_ble_eq_true rfl) _ Try.underlying26 (by rfl) (by kernel_rfl) ?_; (try simp only [Act.put, List.setIfInBounds_toArray, List.set_cons_zero, List.set_cons_succ, List.drop_succ_cons, List.drop_zero, List.take_succ_cons, List.take_zero, putAt, ints_set, ints_push, List.getElem_toArray, List.getElem_cons_zero, List.getElem_cons_succ])) | (refine Mine.wp_get M.out rfl _ _ rfl 3 _ rfl rfl _ rfl _ (by first | exact Try.underlying3) (by rfl) ?_; (try simp only [Act.put, List.setIfInBounds_toArray, List.set_cons_zero, List.set_cons_succ, List.drop_succ_cons, List.drop_zero, List.take_succ_cons, List.take_zero, putAt, ints_set, ints_push, List.getElem_toArray, List.getElem_cons_zero, List.getElem_cons_succ]))) | ((with_reducible show wpList _ _ _ (⟨_, .load _ _, _, _, _, some _⟩ :: _) _ _); first | (refine Mine.wp_getg M.out (by rfl) _ _ rfl 3 _ rfl rfl _ rfl _ (by first | exact Try.underlying3) (by rfl) ?_; (try simp only [Act.put, List.setIfInBounds_toArray, List.set_cons_zero, List.set_cons_succ, List.drop_succ_cons, List.drop_zero, List.take_succ_cons, List.take_zero, putAt, ints_set, ints_push, List.getElem_toArray, List.getElem_cons_zero, List.getElem_cons_succ]))))
        go_roundw
        case rel => exact ⟨k + 1, m, d, B, s', HK1.out, by go_num, Lib.hid (fold_skip HF.out (by rw [HOK.out]; exact dec_no hno.out)), M.out.drop_at [_, _, _]⟩
        case measure => have := HK1.out; simp [intOf]; omega
      have HL0 := Lib.hid hl0
      clear hl0
      by_cases hr0 : Y2 = x4
      rotate_left
      · have hno : Hid (¬ (lateFree l p x1 ∧ Y2 = x4 ∧ k ∉ p)) := fun h => hr0 h.2.1
        have br : (Y2 != x4) = true := by simpa using hr0
        clear hr0
        go_wp2_with (first | (go_at_call 53; (with_reducible refine (anyLate_any gc gl _ nl cl l Ap np cp p x1 _ S _ (((M.out.box_at 3 rfl).cell 1).trans rfl) (((M.out.box_at 4 rfl).cell 0).trans rfl) (HLS.out.ext M.out.ext) (by omega) (M.out.row_sl 2 rfl) (fun z hz => by have := HPR.out z hz; omega) (by omega)).mono ?_); rintro e w2 ⟨rfl, x2_⟩; replace M := Lib.hid (M.out.on x2_); clear x2_; rw [dec_yes HL0.out]) | (go_at_call 12; (with_reducible refine (impl_CallDo v x0 x1 x2 x3 x4 _).mono ?_); rintro e w2 ⟨rfl, x2_⟩; replace M := Lib.hid (M.out.on x2_); clear x2_; rw [HY.out]) | ((with_reducible show wpList _ _ _ (⟨_, _, _, _, _, none⟩ :: _) _ _); first | (refine Mine.wp_alloc M.out rfl 26 rfl (.agg #[.int .i64 0, .int .i64 0, .int .i64 0, .int .i64 0, .int .i64 0]) (by kernel_rfl) ?_; intro gc w' M'; (try simp only [Value.cells, Act.put, List.setIfInBounds_toArray, List.set_cons_zero, List.set_cons_succ, List.drop_succ_cons, List.drop_zero, List.take_succ_cons, List.take_zero, putAt, ints_set, ints_push, List.getElem_toArray, List.getElem_cons_zero, List.getElem_cons_succ] at M'); replace M := Lib.hid (M'.sink [_, _, _]); clear M'; simp only [List.cons_append, List.nil_append] at M; (try simp only [Act.put, List.setIfInBounds_toArray, List.set_cons_zero, List.set_cons_succ, List.drop_succ_cons, List.drop_zero, List.take_succ_cons, List.take_zero, putAt, ints_set, ints_push, List.getElem_toArray, List.getElem_cons_zero, List.getElem_cons_succ])) | (refine Mine.wp_sets M.out rfl 26 _ _ rfl rfl 3 _ rfl rfl _ rfl (Nat.le_of_ble_eq_true rfl) (by simp [Value.oneCell']) (by kernel_rfl) ?_; intro w' M'; (try simp only [Act.put, List.setIfInBounds_toArray, List.set_cons_zero, List.set_cons_succ, List.drop_succ_cons, List.drop_zero, List.take_succ_cons, List.take_zero, putAt, ints_set, ints_push, List.getElem_toArray, List.getElem_cons_zero, List.getElem_cons_succ] at M'); replace M := Lib.hid M'; clear M') | (refine Mine.wp_gets M.out rfl 26 _ rfl 3 _ 5 rfl rfl (Nat.le_of_ble_eq_true rfl) _ Try.underlying26 (by rfl) (by kernel_rfl) ?_; (try simp only [Act.put, List.setIfInBounds_toArray, List.set_cons_zero, List.set_cons_succ, List.drop_succ_cons, List.drop_zero, List.take_succ_cons, List.take_zero, putAt, ints_set, ints_push, List.getElem_toArray, List.getElem_cons_zero, List.getElem_cons_succ])) | (refine Mine.wp_get M.out rfl _ _ rfl 3 _ rfl rfl _ rfl _ (by first | exact Try.underlying3) (by rfl) ?_; (try simp only [Act.put, List.setIfInBounds_toArray, List.set_cons_zero, List.set_cons_succ, List.drop_succ_cons, List.drop_zero, List.take_succ_cons, List.take_zero, putAt, ints_set, ints_push, List.getElem_toArray, List.getElem_cons_zero, List.getElem_cons_succ]))) | ((with_reducible show wpList _ _ _ (⟨_, .load _ _, _, _, _, some _⟩ :: _) _ _); first | (refine Mine.wp_getg M.out (by rfl) _ _ rfl 3 _ rfl rfl _ rfl _ (by first | exact Try.underlying3) (by rfl) ?_; (try simp only [Act.put, List.setIfInBounds_toArray, List.set_cons_zero, List.set_cons_succ, List.drop_succ_cons, List.drop_zero, List.take_succ_cons, List.take_zero, putAt, ints_set, ints_push, List.getElem_toArray, List.getElem_cons_zero, List.getElem_cons_succ]))))
        go_roundw
        case rel => exact ⟨k + 1, m, d, B, s', HK1.out, by go_num, Lib.hid (fold_skip HF.out (by rw [HOK.out]; exact dec_no hno.out)), M.out.drop_at [_, _, _]⟩
        case measure => have := HK1.out; simp [intOf]; omega
      have br : (Y2 != x4) = false := by simpa using hr0
      have HR0 := Lib.hid hr0
      clear hr0
      by_cases hm0 : k ∈ p
      · have hno : Hid (¬ (lateFree l p x1 ∧ Y2 = x4 ∧ k ∉ p)) := fun h => h.2.2 hm0
        have HM0 := Lib.hid hm0
        clear hm0
        go_wp2_with (first | (go_at_call 53; (with_reducible refine (anyLate_any gc gl _ nl cl l Ap np cp p x1 _ S _ (((M.out.box_at 3 rfl).cell 1).trans rfl) (((M.out.box_at 4 rfl).cell 0).trans rfl) (HLS.out.ext M.out.ext) (by omega) (M.out.row_sl 2 rfl) (fun z hz => by have := HPR.out z hz; omega) (by omega)).mono ?_); rintro e w2 ⟨rfl, x2_⟩; replace M := Lib.hid (M.out.on x2_); clear x2_; rw [dec_yes HL0.out]) | (go_at_call 12; (with_reducible refine (impl_CallDo v x0 x1 x2 x3 x4 _).mono ?_); rintro e w2 ⟨rfl, x2_⟩; replace M := Lib.hid (M.out.on x2_); clear x2_; rw [HY.out]) | (go_at_call 52; (with_reducible refine (Contains_any Ap np cp (nz p) (k : Int) _ _ (M.out.row_sl 2 rfl) (by omega)).mono ?_); rintro e w2 ⟨rfl, rfl⟩; rw [dec_yes (nz_mem.2 HM0.out)]) | ((with_reducible show wpList _ _ _ (⟨_, _, _, _, _, none⟩ :: _) _ _); first | (refine Mine.wp_alloc M.out rfl 26 rfl (.agg #[.int .i64 0, .int .i64 0, .int .i64 0, .int .i64 0, .int .i64 0]) (by kernel_rfl) ?_; intro gc w' M'; (try simp only [Value.cells, Act.put, List.setIfInBounds_toArray, List.set_cons_zero, List.set_cons_succ, List.drop_succ_cons, List.drop_zero, List.take_succ_cons, List.take_zero, putAt, ints_set, ints_push, List.getElem_toArray, List.getElem_cons_zero, List.getElem_cons_succ] at M'); replace M := Lib.hid (M'.sink [_, _, _]); clear M'; simp only [List.cons_append, List.nil_append] at M; (try simp only [Act.put, List.setIfInBounds_toArray, List.set_cons_zero, List.set_cons_succ, List.drop_succ_cons, List.drop_zero, List.take_succ_cons, List.take_zero, putAt, ints_set, ints_push, List.getElem_toArray, List.getElem_cons_zero, List.getElem_cons_succ])) | (refine Mine.wp_sets M.out rfl 26 _ _ rfl rfl 3 _ rfl rfl _ rfl (Nat.le_of_ble_eq_true rfl) (by simp [Value.oneCell']) (by kernel_rfl) ?_; intro w' M'; (try simp only [Act.put, List.setIfInBounds_toArray, List.set_cons_zero, List.set_cons_succ, List.drop_succ_cons, List.drop_zero, List.take_succ_cons, List.take_zero, putAt, ints_set, ints_push, List.getElem_toArray, List.getElem_cons_zero, List.getElem_cons_succ] at M'); replace M := Lib.hid M'; clear M') | (refine Mine.wp_gets M.out rfl 26 _ rfl 3 _ 5 rfl rfl (Nat.le_of_ble_eq_true rfl) _ Try.underlying26 (by rfl) (by kernel_rfl) ?_; (try simp only [Act.put, List.setIfInBounds_toArray, List.set_cons_zero, List.set_cons_succ, List.drop_succ_cons, List.drop_zero, List.take_succ_cons, List.take_zero, putAt, ints_set, ints_push, List.getElem_toArray, List.getElem_cons_zero, List.getElem_cons_succ])) | (refine Mine.wp_get M.out rfl _ _ rfl 3 _ rfl rfl _ rfl _ (by first | exact Try.underlying3) (by rfl) ?_; (try simp only [Act.put, List.setIfInBounds_toArray, List.set_cons_zero, List.set_cons_succ, List.drop_succ_cons, List.drop_zero, List.take_succ_cons, List.take_zero, putAt, ints_set, ints_push, List.getElem_toArray, List.getElem_cons_zero, List.getElem_cons_succ]))) | ((with_reducible show wpList _ _ _ (⟨_, .load _ _, _, _, _, some _⟩ :: _) _ _); first | (refine Mine.wp_getg M.out (by rfl) _ _ rfl 3 _ rfl rfl _ rfl _ (by first | exact Try.underlying3) (by rfl) ?_; (try simp only [Act.put, List.setIfInBounds_toArray, List.set_cons_zero, List.set_cons_succ, List.drop_succ_cons, List.drop_zero, List.take_succ_cons, List.take_zero, putAt, ints_set, ints_push, List.getElem_toArray, List.getElem_cons_zero, List.getElem_cons_succ]))))
        go_roundw
        case rel => exact ⟨k + 1, m, d, B, s', HK1.out, by go_num, Lib.hid (fold_skip HF.out (by rw [HOK.out]; exact dec_no hno.out)), M.out.drop_at [_, _, _]⟩
        case measure => have := HK1.out; simp [intOf]; omega
      have HYES : Hid (okI l p v k = true) := by show _ = _; rw [HOK.out]; exact dec_yes ⟨HL0.out, HR0.out, hm0⟩
      have HM0 := Lib.hid hm0
      clear hm0
      go_wp2_with (first | (go_at_call 53; (with_reducible refine (anyLate_any gc gl _ nl cl l Ap np cp p x1 _ S _ (((M.out.box_at 3 rfl).cell 1).trans rfl) (((M.out.box_at 4 rfl).cell 0).trans rfl) (HLS.out.ext M.out.ext) (by omega) (M.out.row_sl 2 rfl) (fun z hz => by have := HPR.out z hz; omega) (by omega)).mono ?_); rintro e w2 ⟨rfl, x2_⟩; replace M := Lib.hid (M.out.on x2_); clear x2_; rw [dec_yes HL0.out]) | (go_at_call 12; (with_reducible refine (impl_CallDo v x0 x1 x2 x3 x4 _).mono ?_); rintro e w2 ⟨rfl, x2_⟩; replace M := Lib.hid (M.out.on x2_); clear x2_; rw [HY.out]) | (go_at_call 52; (with_reducible refine (Contains_any Ap np cp (nz p) (k : Int) _ _ (M.out.row_sl 2 rfl) (by omega)).mono ?_); rintro e w2 ⟨rfl, rfl⟩; rw [dec_no (fun q => HM0.out (nz_mem.1 q))]) | ((with_reducible show wpList _ _ _ (⟨_, _, _, _, _, none⟩ :: _) _ _); first | (refine Mine.wp_alloc M.out rfl 26 rfl (.agg #[.int .i64 0, .int .i64 0, .int .i64 0, .int .i64 0, .int .i64 0]) (by kernel_rfl) ?_; intro gc w' M'; (try simp only [Value.cells, Act.put, List.setIfInBounds_toArray, List.set_cons_zero, List.set_cons_succ, List.drop_succ_cons, List.drop_zero, List.take_succ_cons, List.take_zero, putAt, ints_set, ints_push, List.getElem_toArray, List.getElem_cons_zero, List.getElem_cons_succ] at M'); replace M := Lib.hid (M'.sink [_, _, _]); clear M'; simp only [List.cons_append, List.nil_append] at M; (try simp only [Act.put, List.setIfInBounds_toArray, List.set_cons_zero, List.set_cons_succ, List.drop_succ_cons, List.drop_zero, List.take_succ_cons, List.take_zero, putAt, ints_set, ints_push, List.getElem_toArray, List.getElem_cons_zero, List.getElem_cons_succ])) | (refine Mine.wp_sets M.out rfl 26 _ _ rfl rfl 3 _ rfl rfl _ rfl (Nat.le_of_ble_eq_true rfl) (by simp [Value.oneCell']) (by kernel_rfl) ?_; intro w' M'; (try simp only [Act.put, List.setIfInBounds_toArray, List.set_cons_zero, List.set_cons_succ, List.drop_succ_cons, List.drop_zero, List.take_succ_cons, List.take_zero, putAt, ints_set, ints_push, List.getElem_toArray, List.getElem_cons_zero, List.getElem_cons_succ] at M'); replace M := Lib.hid M'; clear M') | (refine Mine.wp_gets M.out rfl 26 _ rfl 3 _ 5 rfl rfl (Nat.le_of_ble_eq_true rfl) _ Try.underlying26 (by rfl) (by kernel_rfl) ?_; (try simp only [Act.put, List.setIfInBounds_toArray, List.set_cons_zero, List.set_cons_succ, List.drop_succ_cons, List.drop_zero, List.take_succ_cons, List.take_zero, putAt, ints_set, ints_push, List.getElem_toArray, List.getElem_cons_zero, List.getElem_cons_succ])) | (refine Mine.wp_get M.out rfl _ _ rfl 3 _ rfl rfl _ rfl _ (by first | exact Try.underlying3) (by rfl) ?_; (try simp only [Act.put, List.setIfInBounds_toArray, List.set_cons_zero, List.set_cons_succ, List.drop_succ_cons, List.drop_zero, List.take_succ_cons, List.take_zero, putAt, ints_set, ints_push, List.getElem_toArray, List.getElem_cons_zero, List.getElem_cons_succ]))) | ((with_reducible show wpList _ _ _ (⟨_, .load _ _, _, _, _, some _⟩ :: _) _ _); first | (refine Mine.wp_getg M.out (by rfl) _ _ rfl 3 _ rfl rfl _ rfl _ (by first | exact Try.underlying3) (by rfl) ?_; (try simp only [Act.put, List.setIfInBounds_toArray, List.set_cons_zero, List.set_cons_succ, List.drop_succ_cons, List.drop_zero, List.take_succ_cons, List.take_zero, putAt, ints_set, ints_push, List.getElem_toArray, List.getElem_cons_zero, List.getElem_cons_succ]))))
      clear q0 q1 q2 q3 q4 br
      refine Mine.region_head M.out 8 (by kernel_rfl) (by kernel_rfl) ?_
      intro w' M'
      replace M := Lib.hid M'
      clear M'
      refine HQ.take (i := 0) rfl (by kernel_rfl) (by kernel_rfl) (by kernel_rfl) (by omega) rfl (fun _ _ _ _ h => h) ?_
      intro K hK
      (first | (refine Mine.rd_get _ _ rfl 4 _ rfl rfl _ rfl _ (by first | exact Try.underlying32) (by rfl) ?_; (try simp only [Act.put, List.setIfInBounds_toArray, List.set_cons_zero, List.set_cons_succ, List.drop_succ_cons, List.drop_zero, List.take_succ_cons, List.take_zero, putAt, ints_set, ints_push, List.getElem_toArray, List.getElem_cons_zero, List.getElem_cons_succ]); go_big_quiet_on) | (unfold Reads; apply Exists.intro; refine ⟨fun wq hq => ?_, ?_⟩; (clear hq; go_simp; first | done | rfl); (try simp only [Act.put, List.setIfInBounds_toArray, List.set_cons_succ, List.set_cons_zero]); go_big_quiet_on))
      refine HQ.take (i := 1) rfl (by kernel_rfl) (by kernel_rfl) (by kernel_rfl) (by omega) rfl (fun _ _ _ _ h => h) ?_
      intro K hK
      (first | (refine Mine.rd_get _ _ rfl 4 _ rfl rfl _ rfl _ (by first | exact Try.underlying32) (by rfl) ?_; (try simp only [Act.put, List.setIfInBounds_toArray, List.set_cons_zero, List.set_cons_succ, List.drop_succ_cons, List.drop_zero, List.take_succ_cons, List.take_zero, putAt, ints_set, ints_push, List.getElem_toArray, List.getElem_cons_zero, List.getElem_cons_succ]); go_big_quiet_on) | (unfold Reads; apply Exists.intro; refine ⟨fun wq hq => ?_, ?_⟩; (clear hq; go_simp; first | done | rfl); (try simp only [Act.put, List.setIfInBounds_toArray, List.set_cons_succ, List.set_cons_zero]); go_big_quiet_on))
      refine HQ.take (i := 2) rfl (by kernel_rfl) (by kernel_rfl) (by kernel_rfl) (by omega) rfl (fun _ _ _ _ h => h) ?_
      intro K hK
      (first | (refine Mine.rd_get _ _ rfl 4 _ rfl rfl _ rfl _ (by first | exact Try.underlying32) (by rfl) ?_; (try simp only [Act.put, List.setIfInBounds_toArray, List.set_cons_zero, List.set_cons_succ, List.drop_succ_cons, List.drop_zero, List.take_succ_cons, List.take_zero, putAt, ints_set, ints_push, List.getElem_toArray, List.getElem_cons_zero, List.getElem_cons_succ]); go_big_quiet_on) | (unfold Reads; apply Exists.intro; refine ⟨fun wq hq => ?_, ?_⟩; (clear hq; go_simp; first | done | rfl); (try simp only [Act.put, List.setIfInBounds_toArray, List.set_cons_succ, List.set_cons_zero]); go_big_quiet_on))
      refine HQ.take (i := 4) rfl (by kernel_rfl) (by kernel_rfl) (by kernel_rfl) (by omega) rfl (fun _ _ _ _ h => h) ?_
      intro K hK
      (first | (refine Mine.rd_get _ _ rfl 4 _ rfl rfl _ rfl _ (by first | exact Try.underlying32) (by rfl) ?_; (try simp only [Act.put, List.setIfInBounds_toArray, List.set_cons_zero, List.set_cons_succ, List.drop_succ_cons, List.drop_zero, List.take_succ_cons, List.take_zero, putAt, ints_set, ints_push, List.getElem_toArray, List.getElem_cons_zero, List.getElem_cons_succ]); go_big_quiet_on) | (unfold Reads; apply Exists.intro; refine ⟨fun wq hq => ?_, ?_⟩; (clear hq; go_simp; first | done | rfl); (try simp only [Act.put, List.setIfInBounds_toArray, List.set_cons_succ, List.set_cons_zero]); go_big_quiet_on))
      refine HQ.take (i := 7) rfl (by kernel_rfl) (by kernel_rfl) (by kernel_rfl) (by omega) rfl (fun _ _ _ _ h => h) ?_
      intro K hK
      (first | (refine Mine.rd_get _ _ rfl 4 _ rfl rfl _ rfl _ (by first | exact Try.underlying32) (by rfl) ?_; (try simp only [Act.put, List.setIfInBounds_toArray, List.set_cons_zero, List.set_cons_succ, List.drop_succ_cons, List.drop_zero, List.take_succ_cons, List.take_zero, putAt, ints_set, ints_push, List.getElem_toArray, List.getElem_cons_zero, List.getElem_cons_succ]); go_big_quiet_on) | (unfold Reads; apply Exists.intro; refine ⟨fun wq hq => ?_, ?_⟩; (clear hq; go_simp; first | done | rfl); (try simp only [Act.put, List.setIfInBounds_toArray, List.set_cons_succ, List.set_cons_zero]); go_big_quiet_on))
      refine HQ.noisy (rs := [3, 5]) (by kernel_rfl) (by simp) (AllG.cons rfl (by omega) (fun K hK => ?_) (AllG.cons rfl (by omega) (fun K hK => ?_) AllG.nil))
      go_simp
      (go_at_call 46; (refine (copyInts_any Ap np cp (nz p) _ _ (M.out.row_sl 2 rfl) (by omega)).mono ?_); rintro e w2 ⟨B2, d2, rfl, o2, x2_⟩)
      replace M := Lib.hid (M.out.own o2 x2_)
      clear o2 x2_
      refine hK.out _ _ (M.out.tail) ?_
      clear hK K
      (try simp only [Act.put, List.setIfInBounds_toArray, List.set_cons_succ, List.set_cons_zero])
      refine HQ.noisy (rs := [5]) (by kernel_rfl) (by simp) (AllG.cons rfl (by omega) (fun K hK => ?_) AllG.nil)
      go_simp
      replace M := Lib.hid (M.out.box 3 #[.int .i64 (k : Int)])
      refine hK.out _ _ (M.out.tail.tail) ?_
      clear hK K
      (try simp only [Act.put, List.setIfInBounds_toArray, List.set_cons_succ, List.set_cons_zero])
      rotate_left
      go_simp
      replace M := Lib.hid (M.out.box 3 #[.int .i64 (k : Int)])
      refine hK.out _ _ (M.out.tail) ?_
      clear hK K
      (try simp only [Act.put, List.setIfInBounds_toArray, List.set_cons_succ, List.set_cons_zero])
      refine HQ.noisy (rs := [3]) (by kernel_rfl) (by simp) (AllG.cons rfl (by omega) (fun K hK => ?_) AllG.nil)
      go_simp
      (go_at_call 46; (refine (copyInts_any Ap np cp (nz p) _ _ (M.out.row_sl 3 rfl) (by omega)).mono ?_); rintro e w2 ⟨B2, d2, rfl, o2, x2_⟩)
      replace M := Lib.hid (M.out.own o2 x2_).flip'
      clear o2 x2_
      refine hK.out _ _ (M.out.tail.tail) ?_
      clear hK K
      (try simp only [Act.put, List.setIfInBounds_toArray, List.set_cons_succ, List.set_cons_zero])
      rotate_left
      all_goals (
        refine HQ.noisy (rs := [6]) (by kernel_rfl) (by simp) (AllG.cons rfl (by omega) (fun K hK => ?_) AllG.nil)
        refine Mine.step_pour M.out (by rfl) _ _ _ (by rfl) 3 _ _ _ Try.underlying36 Try.infoInt (by rfl) (by omega) 1 (by rfl) (by rfl) (fun _ => True) _ 1 1 [.int .i64 (k : Int)] (by rfl) (M.out.box_sl 0 rfl) (by simp [Value.oneCell']) (by omega) (by unfold maxLen; omega) ?_
        intro A2 c2 w' M'
        simp only [List.set_cons_succ, List.set_cons_zero, ints_push, nz_push] at M'
        replace M := Lib.hid M'.tail
        clear M'
        refine hK.out _ _ (M.out.tail) ?_
        clear hK K
        (try simp only [Act.put, List.setIfInBounds_toArray, List.set_cons_succ, List.set_cons_zero])
        refine HQ.end_ (by kernel_rfl) ?_
        simp only [List.drop_succ_cons, List.drop_zero]
        have hroom2 : s'.length + (leaves l (okI l) f (p ++ [k]) Y1).length ≤ 1000000 := by
          have h1 := foldE_len (L := leavesTo l (okI l) (leaves l (okI l) f) p v k) (s := s) (by rw [HF.out])
          rw [HF.out] at h1
          have h2 := leavesTo_room l (okI l) (leaves l (okI l) f) p v k l.length (by have := HK1.out; omega)
          rw [if_pos HYES.out, HNX.out] at h2
          have h3 := HROOM.out
          have h4 : leaves l (okI l) (f + 1) p v = leavesTo l (okI l) (leaves l (okI l) f) p v l.length := rfl
          rw [h4] at h3
          simp only at h1
          omega
        have HR2 := Lib.hid hroom2
        clear hroom2
        replace M := Lib.hid ((M.out.sink [_, _]))
        simp only [List.cons_append, List.nil_append] at M
        have hk7 := HK1.out
        go_wp2_with fail
        refine (IH.out _ _ _ _ s' _ _ _ (p ++ [k]) Y1 _ (by simp; omega) (fun z hz => by
          rcases List.mem_append.1 hz with q | q
          · exact HPR.out z q
          · simp at q; omega) HR2.out M.out).mono ?_
        rintro e w3 ⟨B3, m3, d3, rfl, M3⟩
        have HFN := Lib.hid (fold_next HF.out HYES.out)
        rw [HNX.out] at HFN
        obtain ⟨⟨s2, fb⟩, hFF⟩ : ∃ F : List Int × Bool, foldU stpE s' (leaves l (okI l) f (p ++ [k]) Y1) = F := ⟨_, rfl⟩
        rw [hFF] at M3 HFN
        rw [hFF]
        clear hFF
        have M4 := Lib.hid (M3.drop_at [_, _])
        simp only [List.cons_append, List.nil_append] at M4
        clear M M3
        cases fb
        · go_wp2
          go_roundw
          case rel => exact ⟨k + 1, m3, d3, B3, s2, HK1.out, by go_num, HFN, M4.out.drop_at [_, _, _]⟩
          case measure => have := HK1.out; simp [intOf]; omega
        · go_wp2
          go_ret
          have h := fold_stop HFN.out l.length (by have := HK1.out; omega)
          rw [show leaves l (okI l) (f + 1) p v = leavesTo l (okI l) (leaves l (okI l) f) p v l.length from rfl, h]
          have M9 := (M4.out.drop_at [_, _, _]).drop_at [_, _, _]
          first | exact ⟨_, _, _, rfl, M9⟩ | exact ⟨rfl, _, _, _, M9⟩)
end Go.Proofs.Ytcnkmbofpppfaaa
