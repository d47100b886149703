/- The closures that fitting is handed and makes: whether a call is late; what the takers do. No condition but sizes. -/
import Derived.Test.YtcnkmbofpppfaaaLineP
import Derived.Test.YtcnkmbofpppfaaaMineP
import Derived.Test.YtcnkmbofpppfaaaCopyI
import Derived.Test.YtcnkmbofpppfaaaRegH
namespace Go.Proofs.Ytcnkmbofpppfaaa
open Go.RowKit Go.Deep
set_option linter.unusedSimpArgs false
set_option linter.unusedVariables false

/-- Places as Go's integers. -/
def nz (p : List Nat) : List Int := p.map fun i : Nat => (i : Int)
theorem nz_length (p : List Nat) : (nz p).length = p.length := by simp [nz]
theorem nz_get {p : List Nat} {i j : Nat} (h : p[i]? = some j) : (nz p)[i]? = some (j : Int) := by simp [nz, h]
theorem nz_mem {p : List Nat} {k : Nat} : (k : Int) ∈ nz p ↔ k ∈ p := by
  unfold nz
  rw [List.mem_map]
  constructor
  · rintro ⟨a, h, e⟩
    have : a = k := Int.ofNat.inj e
    rw [← this]; exact h
  · exact fun h => ⟨k, h, rfl⟩
/-- None of p must be ahead of it. -/
def lateFree (l : List Call) (p : List Nat) (to : Int) : Prop := ∀ j ∈ p, ¬ to < (cc l j).from_
theorem nz_push (p : List Nat) (k : Nat) : nz p ++ [(k : Int)] = nz (p ++ [k]) := by simp [nz]
theorem nz_at {w : World} {S : Nat → Prop} {A : Option Addr} {n k : Nat} {p : List Nat} (h : Sl w S 1 A n (ints (nz p))) (hk : k < n) : ∃ b o j, A = some ⟨b, o, none⟩ ∧ p[k]? = some j ∧ w.cell? ⟨b, o + k, none⟩ = some (.int .i64 (j : Int)) := by
  obtain ⟨b, o, x, e, hb, hx, hc⟩ := h.int_at hk
  have hl := h.len
  rw [nz_length] at hl
  have hj : p[k]? = some (p[k]'(by omega)) := List.getElem?_eq_getElem (by omega)
  have := nz_get hj
  rw [hx] at this
  injection this with this
  subst this
  exact ⟨b, o, _, e, hj, hc⟩
set_option maxHeartbeats 1000000 in
theorem late_any (gc gl : Nat) (A : Option Addr) (n c : Nat) (l : List Call) (j : Nat) (to : Int) (w : World) (S : Nat → Prop) (hc : w.cell? ⟨gc, 1, none⟩ = some (.int .i64 to)) (hl : w.cell? ⟨gl, 0, none⟩ = some (.slice A n c)) (hs : Sl w S 5 A n (l.flatMap Call.cells)) (hj : j < n) (hn : n ≤ 1048576) :
    Calls Try.prog 54 #[.int .i64 (j : Int), .pointer (some ⟨gc, 0, none⟩), .pointer (some ⟨gl, 0, none⟩)] w fun e w' => e = .returned (.bool (decide (to < (cc l j).from_))) ∧ Ext w w' := by
  obtain ⟨b, o, x, rfl, hb, hx, hcl⟩ := hs.flat_at Call.cells_length (by omega) hj
  have e := cc_of hx
  rw [e]
  have c0 := hcl 0 (by omega)
  simp only [Call.cells, List.getElem?_cons_zero, Nat.add_zero] at c0
  have hj1 : (j : Int) < (n : Int) := by omega
  clear hs hx hcl e
  go_enter Try.func54, Try.ntmps54
  go_wp2
  go_quiet (fail)
  go_wp2
  go_ret
  exact ⟨rfl, (Ext.refl' _).drN _⟩
set_option maxHeartbeats 4000000 in
theorem idxLate_any (gc gl : Nat) (A : Option Addr) (n c : Nat) (l : List Call) (B : Option Addr) (m d : Nat) (p : List Nat) (to : Int) (w : World) (S T : Nat → Prop) (hc : w.cell? ⟨gc, 1, none⟩ = some (.int .i64 to)) (hl : w.cell? ⟨gl, 0, none⟩ = some (.slice A n c)) (hs : Sl w S 5 A n (l.flatMap Call.cells)) (hn : n ≤ 1048576)
    (hp : Sl w T 1 B m (ints (nz p))) (hpr : ∀ x ∈ p, x < n) (hm : m ≤ 1048576) :
    Calls Try.prog 61 #[.slice B m d, .func (.func 54) #[] #[.pointer (some ⟨gc, 0, none⟩), .pointer (some ⟨gl, 0, none⟩)]] w fun e w' => ∃ i : Int, e = .returned (.int .i64 i) ∧ ((i = -1 ∧ lateFree l p to) ∨ (0 ≤ i ∧ ¬ lateFree l p to)) ∧ Ext w w' := by
  have H : Hid (p.length = m) := by have h := hp.len; rw [nz_length] at h; exact h
  have HP := Lib.hid hp
  have HS := Lib.hid hs
  have HC := Lib.hid hc
  have HL := Lib.hid hl
  have HR := Lib.hid hpr
  clear hp hs hc hl hpr
  go_enter Try.func61, Try.ntmps61
  go_wp2
  go_loopw [8] (fun i wr => ∃ k : Nat, k ≤ m ∧ i = .int .i64 k ∧ Hid (lateFree l (p.take k) to) ∧ Ext w wr) (fun i _ => m - (intOf i).toNat)
  case atStart => exact ⟨0, Nat.zero_le _, rfl, (by intro j hj; simp at hj), Ext.refl' _⟩
  case round =>
    obtain ⟨k, hk, rfl, hno, hx⟩ := hrel
    have HX := Lib.hid hx
    clear hx
    by_cases hlt : (k : Int) < (m : Int)
    · obtain ⟨b, o, j, rfl, hj, k0⟩ := nz_at (HP.out.ext HX.out) (k := k) (by omega)
      have HJ := Lib.hid hj
      clear hj
      go_wp2_with fail
      refine (late_any gc gl A n c l j to _ S (HX.out.co HC.out) (HX.out.co HL.out) (HS.out.ext HX.out) (HR.out j (List.mem_of_getElem? HJ.out)) hn).mono ?_
      rintro e w2 ⟨rfl, x2⟩
      have X2 := Lib.hid (HX.out.tr x2)
      clear x2
      by_cases h0 : to < (cc l j).from_
      · have H0 := Lib.hid h0
        rw [decide_eq_true h0]
        clear h0
        go_wp2
        go_ret
        exact ⟨k, rfl, .inr ⟨by omega, fun h => h j (List.mem_of_getElem? HJ.out) H0.out⟩, X2.out⟩
      · have H0 := Lib.hid h0
        rw [decide_eq_false h0]
        clear h0
        go_wp2
        go_roundw
        case rel =>
          refine ⟨k + 1, by omega, by go_num, ?_, X2.out⟩
          intro q hq
          rw [List.take_add_one, HJ.out] at hq
          rcases List.mem_append.1 hq with h | h
          · exact hno.out q h
          · simp at h; subst h; first | exact H0.out | exact Int.not_lt.2 H0.out
        case measure => simp [intOf]; omega
    · go_wp2
      go_ret
      refine ⟨-1, rfl, .inl ⟨rfl, ?_⟩, HX.out⟩
      have h1 := hno.out
      have h2 := H.out
      rw [List.take_of_length_le (by omega)] at h1
      exact h1
theorem anyLate_any (gc gl : Nat) (A : Option Addr) (n c : Nat) (l : List Call) (B : Option Addr) (m d : Nat) (p : List Nat) (to : Int) (w : World) (S T : Nat → Prop) (hc : w.cell? ⟨gc, 1, none⟩ = some (.int .i64 to)) (hl : w.cell? ⟨gl, 0, none⟩ = some (.slice A n c)) (hs : Sl w S 5 A n (l.flatMap Call.cells)) (hn : n ≤ 1048576)
    (hp : Sl w T 1 B m (ints (nz p))) (hpr : ∀ x ∈ p, x < n) (hm : m ≤ 1048576) :
    Calls Try.prog 53 #[.slice B m d, .func (.func 54) #[] #[.pointer (some ⟨gc, 0, none⟩), .pointer (some ⟨gl, 0, none⟩)]] w fun e w' => e = .returned (.bool (!dec (lateFree l p to))) ∧ Ext w w' := by
  go_enter Try.func53, Try.ntmps53
  go_wp2_with fail
  refine (idxLate_any gc gl A n c l B m d p to _ S T hc hl hs hn hp hpr hm).mono ?_
  rintro e w1 ⟨i, rfl, hi, x1⟩
  have X1 := Lib.hid x1
  clear x1 hc hl hs hp
  rcases hi with ⟨rfl, hx⟩ | ⟨hi, hx⟩
  · have HX := Lib.hid hx
    clear hx
    go_wp2
    go_ret
    exact ⟨by rw [dec_yes HX.out]; rfl, X1.out⟩
  · have HX := Lib.hid hx
    clear hx
    go_wp2
    go_ret
    exact ⟨by rw [dec_no HX.out]; rfl, X1.out⟩
/-- The takers: the first order is enough; all values are put down. -/
def stpO (_ : List Int) (x : Leaf) : List Int × Bool := (nz x.1, true)
def stpE (s : List Int) (x : Leaf) : List Int × Bool := (s ++ [x.2], false)
theorem foldE (L : List Leaf) : ∀ s, foldU stpE s L = (s ++ L.map (·.2), false) := by
  induction L with
  | nil => intro s; simp [foldU]
  | cons x L ih => intro s; simp [foldU, stpE, ih]
theorem foldO : ∀ (L : List Leaf) (s : List Int), foldU stpO s L = match L with | [] => (s, false) | x :: _ => (nz x.1, true)
  | [], s => rfl
  | x :: L, s => by simp [foldU, stpO]
theorem foldE_len {L : List Leaf} {s : List Int} (_h : (foldU stpE s L).2 = false) : (foldU stpE s L).1.length ≤ s.length + L.length := by rw [foldE]; simp
theorem foldO_len {L : List Leaf} {s : List Int} (h : (foldU stpO s L).2 = false) : (foldU stpO s L).1.length ≤ s.length + L.length := by
  rw [foldO] at h ⊢
  cases L with
  | nil => simp
  | cons x L => cases h
theorem foldU_one {σ : Type} (stp : σ → Leaf → σ × Bool) (s : σ) (x : Leaf) : foldU stp s [x] = stp s x := by
  unfold foldU
  split
  · rename_i h; rw [← h]
  · rename_i h
    have h' : (stp s x).2 = false := by simpa using h
    unfold foldU
    rw [← h']
theorem leavesTo_room (l : List Call) (ok : List Nat → Int → Nat → Bool) (rec : List Nat → Int → List Leaf) (p : List Nat) (v : Int) (k : Nat) : ∀ m, k < m → (leavesTo l ok rec p v k).length + (if ok p v k = true then rec (p ++ [k]) (nxt l v k) else []).length ≤ (leavesTo l ok rec p v m).length
  | 0, h => absurd h (Nat.not_lt_zero _)
  | m + 1, h => by
    rw [show leavesTo l ok rec p v (m + 1) = leavesTo l ok rec p v m ++ (if ok p v m = true then rec (p ++ [m]) (nxt l v m) else []) from rfl, List.length_append]
    by_cases e : k = m
    · subst e; exact Nat.le_refl _
    · have := leavesTo_room l ok rec p v k m (by omega)
      omega

set_option maxHeartbeats 2000000 in
theorem takeO_any {b w : World} {go : Nat} {B : Option Addr} {m d : Nat} {s : List Int} {fr : List Res} (M0 : Mine b w (.box go 36 (#[.slice B m d] : Array Value) :: .row 3 1 B m d (ints s) :: fr)) (A : Option Addr) (n c : Nat) (p : List Nat) (v : Int) (S : Nat → Prop) (hs : Sl w S 1 A n (ints (nz p))) (hn : n ≤ 1048576) (hm : s.length ≤ 1000000) :
    Calls Try.prog 45 #[.slice A n c, .int .i64 v, .pointer (some ⟨go, 0, none⟩)] w fun e w' => ∃ B' m' d', e = .returned (.bool (stpO s (p, v)).2) ∧ Mine b w' (.box go 36 (#[.slice B' m' d'] : Array Value) :: .row 3 1 B' m' d' (ints (stpO s (p, v)).1) :: fr) := by
  have M := Lib.hid M0
  have hml := M0.len1 1 rfl
  rw [ints_length] at hml
  clear M0
  have HS := Lib.hid hs
  clear hs
  have hmm : m ≤ 1000000 := by omega
  go_enter Try.func45, Try.ntmps45
  go_wp2_with (first | (go_at_call 46; (with_reducible refine (copyInts_any A n c (nz p) _ S HS.out hn).mono ?_); rintro e w2 ⟨B2, d2, rfl, o2, x2⟩; replace M := Lib.hid ((M.out.own o2 x2).sink [_]); clear o2 x2; simp only [List.cons_append, List.nil_append] at M) | ((with_reducible show wpList _ _ _ (⟨_, _, _, _, _, none⟩ :: _) _ _); first | (refine Mine.wp_set M.out rfl _ _ _ rfl rfl 0 _ rfl rfl _ (by (conv => lhs; whnf) <;> rfl) (Nat.le_of_ble_eq_true rfl) (by rfl) (by kernel_rfl) ?_; intro w' M'; (try simp only [Act.put, List.setIfInBounds_toArray, List.set_cons_zero, List.set_cons_succ, List.drop_succ_cons, List.drop_zero, List.take_succ_cons, List.take_zero, putAt, ints_set, ints_push, List.getElem_toArray, List.getElem_cons_zero, List.getElem_cons_succ] at M'); replace M := Lib.hid M'; clear M')))
  go_ret
  exact ⟨_, _, _, rfl, M.out.drop_at [_, _]⟩
set_option maxHeartbeats 2000000 in
theorem takeE_any {b w : World} {go : Nat} {B : Option Addr} {m d : Nat} {s : List Int} {fr : List Res} (M0 : Mine b w (.box go 36 (#[.slice B m d] : Array Value) :: .row 3 1 B m d (ints s) :: fr)) (A : Option Addr) (n c : Nat) (p : List Nat) (v : Int) (S : Nat → Prop) (hs : Sl w S 1 A n (ints (nz p))) (hn : n ≤ 1048576) (hm : s.length ≤ 1000000) :
    Calls Try.prog 47 #[.slice A n c, .int .i64 v, .pointer (some ⟨go, 0, none⟩)] w fun e w' => ∃ B' m' d', e = .returned (.bool (stpE s (p, v)).2) ∧ Mine b w' (.box go 36 (#[.slice B' m' d'] : Array Value) :: .row 3 1 B' m' d' (ints (stpE s (p, v)).1) :: fr) := by
  have M := Lib.hid M0
  have hml := M0.len1 1 rfl
  rw [ints_length] at hml
  clear M0
  have HS := Lib.hid hs
  clear hs
  have hmm : m ≤ 1000000 := by omega
  go_enter Try.func47, Try.ntmps47
  go_wp2_with (first | (at_builtin; refine Mine.wp_push M.out rfl _ _ 36 rfl 3 _ _ _ Try.underlying36 Try.infoInt rfl (by omega) 1 rfl rfl _ _ rfl rfl rfl (by simp [Value.oneCell']) (by omega) (by unfold maxLen; omega) ?_; intro A2 c2 w' M'; (try simp only [Act.put, List.setIfInBounds_toArray, List.set_cons_zero, List.set_cons_succ, List.drop_succ_cons, List.drop_zero, List.take_succ_cons, List.take_zero, putAt, ints_set, ints_push, List.getElem_toArray, List.getElem_cons_zero, List.getElem_cons_succ] at M'); replace M := Lib.hid M'; clear M') | ((with_reducible show wpList _ _ _ (⟨_, _, _, _, _, none⟩ :: _) _ _); first | (refine Mine.wp_get M.out rfl _ _ rfl 0 _ rfl rfl _ rfl _ (by first | exact Try.underlying36) (by rfl) ?_; (try simp only [Act.put, List.setIfInBounds_toArray, List.set_cons_zero, List.set_cons_succ, List.drop_succ_cons, List.drop_zero, List.take_succ_cons, List.take_zero, putAt, ints_set, ints_push, List.getElem_toArray, List.getElem_cons_zero, List.getElem_cons_succ])) | (refine Mine.wp_set M.out rfl _ _ _ rfl rfl 0 _ rfl rfl _ (by (conv => lhs; whnf) <;> rfl) (Nat.le_of_ble_eq_true rfl) (by rfl) (by kernel_rfl) ?_; intro w' M'; (try simp only [Act.put, List.setIfInBounds_toArray, List.set_cons_zero, List.set_cons_succ, List.drop_succ_cons, List.drop_zero, List.take_succ_cons, List.take_zero, putAt, ints_set, ints_push, List.getElem_toArray, List.getElem_cons_zero, List.getElem_cons_succ] at M'); replace M := Lib.hid M'; clear M')))
  go_ret
  exact ⟨_, _, _, rfl, M.out⟩
end Go.Proofs.Ytcnkmbofpppfaaa
