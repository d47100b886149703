/- Plain laws on states: the entries in the order of their stamps, put over one behind the other; what a family sees. No condition. StateAt of the program. No condition but lengths. -/
import Derived.Test.YtglplgbhhnmgbaaGreatOM1
import Derived.Test.YtglplgbhhnmgbaaGreatOM2
import Derived.Test.YtglplgbhhnmgbaaGreatCopyI
namespace Go.Proofs.YtglplgbhhnmgbaaGreat
open Go.RowKit Go.Deep
set_option linter.unusedSimpArgs false
set_option linter.unusedVariables false

theorem vals_at {l : List Int} (h : valsOk l = true) {k : Nat} {x : Int} (hx : l[k]? = some x) : 0 ≤ x ∧ x ≤ 65535 := (dec_true h).2 k (List.getElem?_eq_some_iff.1 hx).1 x hx
theorem setTo_ok {l : List Int} {rs : List Row} (hv : valsOk l = true) (hr : rowsOk rs = true) : ∀ k, k ≤ rs.length → valsOk (setTo l rs k) = true
  | 0, _ => hv
  | k + 1, hk => by
    have ih := setTo_ok hv hr k (by omega)
    have hx := List.getElem?_eq_getElem (show k < rs.length by omega)
    generalize rs[k] = x at hx
    have hok := (dec_true hr).2 k (by omega) x hx
    rw [setTo_succ hx]
    refine dec_yes ⟨by rw [List.length_set]; exact valsOk_len ih, fun i hi y hy => ?_⟩
    rw [List.getElem?_set] at hy
    by_cases e : x.cell_.toNat = i
    · rw [if_pos e] at hy
      split at hy
      · injection hy with hy; rw [← hy]; exact hok.2
      · cases hy
    · rw [if_neg e] at hy
      exact vals_at ih hy
theorem over_ok {now : List Int} {ps : List Row} (hv : valsOk now = true) (h : rowsOk ps = true) : valsOk (overlayOf now ps) = true := by
  unfold overlayOf
  rw [dec_yes ⟨hv, h⟩]
  exact setTo_ok hv h _ (Nat.le_refl _)
theorem stamp_once {l : List Wrote} (h : histOk l = true) {i j : Nat} {x y : Wrote} (hx : l[i]? = some x) (hy : l[j]? = some y) (e : x.stamp_ = y.stamp_) : i = j := by
  rcases Nat.lt_trichotomy i j with c | c | c
  · exact absurd e ((hist_one h hy).2.2.2 i x c hx)
  · exact c
  · exact absurd e.symm ((hist_one h hx).2.2.2 j y c hy)
theorem ovAll_is {l : List Wrote} (h : histOk l = true) {s : Int} {V : List Int} {p : Nat} {y : Wrote} (hy : l[p]? = some y) (hs : y.stamp_ = s) : ∀ j, j ≤ l.length → ovAll l s V j = if j ≤ p then V else overlayOf V y.puts_
  | 0, _ => by rw [if_pos (Nat.zero_le _)]; rfl
  | j + 1, hj => by
    have ih := ovAll_is (V := V) h hy hs j (by omega)
    have hx := List.getElem?_eq_getElem (show j < l.length by omega)
    generalize l[j] = x at hx
    by_cases e : x.stamp_ = s
    · obtain rfl : j = p := stamp_once h hx hy (by rw [e, hs])
      rw [ovAll_yes hx e, ih, if_pos (Nat.le_refl _), if_neg (by omega)]
      rw [hy] at hx
      injection hx with hx
      rw [hx]
    · have : j ≠ p := fun q => e (by subst q; rw [hy] at hx; injection hx with hx; rw [← hx]; exact hs)
      rw [ovAll_no hx e, ih]
      by_cases c : j ≤ p
      · rw [if_pos c, if_pos (by omega)]
      · rw [if_neg c, if_neg (by omega)]
theorem stamps_is {l : List Wrote} (h : histOk l = true) : stampsOf l = sorted l := by unfold stampsOf; rw [if_pos h]
theorem st_ok {l : List Wrote} (h : histOk l = true) {cells : List Int} (hv : valsOk cells = true) : ∀ i, i ≤ l.length → valsOk (stTo l (stampsOf l) cells i) = true
  | 0, _ => hv
  | i + 1, hi => by
    have ih := st_ok h hv i (by omega)
    obtain ⟨s, hx⟩ : ∃ s, (stampsOf l)[i]? = some s := ⟨_, List.getElem?_eq_getElem (show i < (stampsOf l).length by rw [stamps_is h, sorted_len]; omega)⟩
    obtain ⟨p, y, hy, hs⟩ := sorted_mem.1 (by rw [← stamps_is h]; exact List.mem_of_getElem? hx : s ∈ sorted l)
    have hp := (List.getElem?_eq_some_iff.1 hy).1
    rw [stTo_next hx, ovAll_is h hy hs _ (Nat.le_refl _), if_neg (by omega)]
    exact over_ok ih (hist_one h hy).2.2.1
theorem cnt_le (S : List Int) (n : Int) : cntLe S n ≤ S.length := by unfold cntLe; exact (List.takeWhile_sublist _).length_le
theorem cnt_lt {S : List Int} {n s : Int} : ∀ {i : Nat}, (∀ (p q : Nat) (x y : Int), p < q → S[p]? = some x → S[q]? = some y → x < y) → S[i]? = some s → (i < cntLe S n ↔ s ≤ n) := by
  induction S with
  | nil => intro i _ h; simp at h
  | cons x S ih =>
    intro i hs h
    unfold cntLe at ih ⊢
    rw [List.takeWhile_cons]
    cases i with
    | zero =>
      simp at h
      subst h
      by_cases c : x ≤ n <;> simp [c]
    | succ i =>
      have h' : S[i]? = some s := by simpa using h
      have hlt := hs 0 (i + 1) x s (by omega) rfl h
      have ih' := ih (i := i) (fun p q a b hpq ha hb => hs (p + 1) (q + 1) a b (by omega) (by simpa using ha) (by simpa using hb)) h'
      by_cases c : x ≤ n
      · simp only [c, decide_true, if_true, List.length_cons]
        rw [← ih']
        omega
      · simp only [c, decide_false, Bool.false_eq_true, if_false, List.length_nil]
        omega
theorem stampsL {l : List Wrote} (h : histOk l = true) (p q : Nat) (x y : Int) (hpq : p < q) (hx : (stampsOf l)[p]? = some x) (hy : (stampsOf l)[q]? = some y) : x < y := by
  rw [stamps_is h] at hx hy
  exact sorted_lt h hpq hx hy
/-- The entries that stand no later than N among the first k, put over. -/
noncomputable def runTo (L : List Wrote) (N : Int) (cells : List Int) : Nat → List Int
  | 0 => cells
  | k + 1 => match L[k]? with
    | some y => if dec (y.stamp_ ≤ N) = true then overlayOf (runTo L N cells k) y.puts_ else runTo L N cells k
    | none => runTo L N cells k
theorem runTo_yes {L : List Wrote} {N : Int} {cells : List Int} {k : Nat} {y : Wrote} (hy : L[k]? = some y) (h : y.stamp_ ≤ N) : runTo L N cells (k + 1) = overlayOf (runTo L N cells k) y.puts_ := by
  rw [runTo, hy]; simp only; rw [dec_yes h]; rfl
theorem runTo_no {L : List Wrote} {N : Int} {cells : List Int} {k : Nat} {y : Wrote} (hy : L[k]? = some y) (h : ¬ y.stamp_ ≤ N) : runTo L N cells (k + 1) = runTo L N cells k := by
  rw [runTo, hy]; simp only; rw [dec_no h]; rfl
theorem runTo_le {L : List Wrote} {N : Int} {cells : List Int} (h : cells.length ≤ 8) : ∀ k, (runTo L N cells k).length ≤ 8
  | 0 => h
  | k + 1 => by
    have ih := runTo_le (L := L) (N := N) h k
    rw [runTo]
    cases L[k]? with
    | none => exact ih
    | some y =>
      simp only
      split
      · exact overlay_le _ _
      · exact ih
theorem uniq_sorted : ∀ {a b : List Int}, a.Perm b → a.Pairwise (· < ·) → b.Pairwise (· < ·) → a = b
  | [], b, h, _, _ => (List.nil_perm.1 h).symm
  | x :: a, [], h, _, _ => by have := h.length_eq; simp at this
  | x :: a, y :: b, h, h1, h2 => by
    have e : x = y := by
      have m1 : x ∈ y :: b := h.subset (List.mem_cons_self ..)
      have m2 : y ∈ x :: a := h.symm.subset (List.mem_cons_self ..)
      rcases List.mem_cons.1 m1 with e | m1
      · exact e
      rcases List.mem_cons.1 m2 with e | m2
      · exact e.symm
      have := (List.pairwise_cons.1 h1).1 y m2
      have := (List.pairwise_cons.1 h2).1 x m1
      omega
    subst e
    rw [uniq_sorted (List.Perm.cons_inv h) (List.pairwise_cons.1 h1).2 (List.pairwise_cons.1 h2).2]
theorem order_is {l L : List Wrote} (h : histOk l = true) (hp : L.Perm l) (hs : L.Pairwise (fun x y => ¬ y.stamp_ < x.stamp_)) : L.map (·.stamp_) = stampsOf l := by
  have hn : (l.map (·.stamp_)).Nodup := by
    rw [List.Nodup, List.pairwise_iff_getElem]
    intro a b ha hb hab
    simp only [List.length_map] at ha hb
    have := (hist_one h (List.getElem?_eq_getElem hb)).2.2.2 a _ hab (List.getElem?_eq_getElem ha)
    simpa using this
  have hpm : (L.map (·.stamp_)).Perm (l.map (·.stamp_)) := hp.map _
  have hn2 : (L.map (·.stamp_)).Nodup := hpm.symm.nodup hn
  refine uniq_sorted ?_ ?_ ?_
  · rw [stamps_is h]; exact hpm.trans (List.mergeSort_perm _ _).symm
  · have h2 : (L.map (·.stamp_)).Pairwise (fun a b => ¬ b < a) := List.pairwise_map.2 hs
    have h3 := List.Pairwise.and h2 hn2
    exact h3.imp fun {a b} q => by have h1 := q.1; have h2 := q.2; omega
  · rw [List.pairwise_iff_getElem]
    intro i j hi hj hij
    exact stampsL h i j _ _ hij (List.getElem?_eq_getElem hi) (List.getElem?_eq_getElem hj)
theorem run_is {l L : List Wrote} (h : histOk l = true) (hp : L.Perm l) (hs : L.Pairwise (fun x y => ¬ y.stamp_ < x.stamp_)) (N : Int) (cells : List Int) : ∀ k, k ≤ L.length → runTo L N cells k = stTo l (stampsOf l) cells (min k (cntLe (stampsOf l) N))
  | 0, _ => by rw [Nat.zero_min]; rfl
  | k + 1, hk => by
    have ih := run_is h hp hs N cells k (by omega)
    have hx := List.getElem?_eq_getElem (show k < L.length by omega)
    generalize L[k] = x at hx
    have hst : (stampsOf l)[k]? = some x.stamp_ := by rw [← order_is h hp hs, List.getElem?_map, hx]; rfl
    have hcl := cnt_lt (n := N) (stampsL h) hst
    obtain ⟨p, hpx⟩ := List.mem_iff_getElem?.1 (hp.subset (List.mem_of_getElem? hx))
    by_cases c : x.stamp_ ≤ N
    · have c2 := hcl.2 c
      have := (List.getElem?_eq_some_iff.1 hpx).1
      rw [runTo_yes hx c, ih, Nat.min_eq_left (Nat.le_of_lt c2), Nat.min_eq_left c2, stTo_next hst, ovAll_is h hpx rfl _ (Nat.le_refl _), if_neg (by omega)]
    · have c2 : ¬ k < cntLe (stampsOf l) N := fun q => c (hcl.1 q)
      rw [runTo_no hx c, ih, Nat.min_eq_right (by omega), Nat.min_eq_right (by omega)]
theorem state_run {l L : List Wrote} {cells : List Int} (hv : valsOk cells = true) (h : histOk l = true) (hp : L.Perm l) (hs : L.Pairwise (fun x y => ¬ y.stamp_ < x.stamp_)) (N : Int) : stateOf cells l N = runTo L N cells L.length := by
  have hc : cntLe (stampsOf l) N ≤ L.length := by have := cnt_le (stampsOf l) N; rw [stamps_is h, sorted_len] at this; rw [stamps_is h, hp.length_eq]; exact this
  rw [run_is h hp hs N cells _ (Nat.le_refl _), Nat.min_eq_right hc]
  unfold stateOf
  rw [dec_yes ⟨hv, h⟩]; rfl
theorem state_vals {l : List Wrote} {cells : List Int} (hv : valsOk cells = true) (h : histOk l = true) (N : Int) : valsOk (stateOf cells l N) = true := by
  have hc : cntLe (stampsOf l) N ≤ l.length := by have := cnt_le (stampsOf l) N; rw [stamps_is h, sorted_len] at this; rw [stamps_is h]; exact this
  unfold stateOf
  rw [dec_yes ⟨hv, h⟩]
  exact st_ok h hv _ hc
/-! ### What a family sees -/
def kidAt (f : Family) (k : Int) : KidRun := f.kids_.getD k.toNat default
def kidIn (f : Family) (k : Int) : Prop := (0 ≤ k ∧ k < f.kids_.length) ∧ rowsOk (kidAt f k).writes_ = true
noncomputable def famTo (base : List Int) (f : Family) : Nat → List Int
  | 0 => overlayOf base f.start_
  | i + 1 => match f.order_[i]? with
    | some k => if dec (kidIn f k) = true then overlayOf (famTo base f i) (kidAt f k).writes_ else famTo base f i
    | none => famTo base f i
theorem famTo_yes {base : List Int} {f : Family} {i : Nat} {k : Int} (hk : f.order_[i]? = some k) (h : kidIn f k) : famTo base f (i + 1) = overlayOf (famTo base f i) (kidAt f k).writes_ := by
  rw [famTo, hk]; simp only; rw [dec_yes h]; rfl
theorem famTo_no {base : List Int} {f : Family} {i : Nat} {k : Int} (hk : f.order_[i]? = some k) (h : ¬ kidIn f k) : famTo base f (i + 1) = famTo base f i := by
  rw [famTo, hk]; simp only; rw [dec_no h]; rfl
theorem famTo_ok {base : List Int} {f : Family} (hv : valsOk base = true) (hs : rowsOk f.start_ = true) : ∀ i, valsOk (famTo base f i) = true
  | 0 => over_ok hv hs
  | i + 1 => by
    have ih := famTo_ok hv hs i
    rw [famTo]
    cases f.order_[i]? with
    | none => exact ih
    | some k =>
      simp only
      split
      · rename_i h; exact over_ok ih (dec_true h).2
      · exact ih
noncomputable def famAt (base : List Int) (f : Family) (n : Int) : List Int := if dec (valsOk base = true ∧ rowsOk f.start_ = true) = true then famTo base f (min f.order_.length n.toNat) else []
theorem famAt_no {base : List Int} {f : Family} {n : Int} (h : ¬ (valsOk base = true ∧ rowsOk f.start_ = true)) : famAt base f n = [] := by unfold famAt; rw [dec_no h]; rfl
theorem famAt_yes {base : List Int} {f : Family} {n : Int} (h : valsOk base = true ∧ rowsOk f.start_ = true) : famAt base f n = famTo base f (min f.order_.length n.toNat) := by unfold famAt; rw [dec_yes h]; rfl
theorem famAt_vals {base : List Int} {f : Family} {n : Int} (h : valsOk base = true ∧ rowsOk f.start_ = true) : valsOk (famAt base f n) = true := by rw [famAt_yes h]; exact famTo_ok h.1 h.2 _
def seenOk (s : List Int) (_ : Nat) (e : Entry) : Prop := (0 ≤ e.cell_ ∧ e.cell_ ≤ 7) ∧ s[e.cell_.toNat]? = some e.val_
def kidTrue (base : List Int) (f : Family) (_ : Nat) (x : KidRun) : Prop := AllTo (seenOk (famAt base f x.since_)) x.seen_ x.seen_.length
noncomputable def famTrue (base : List Int) (f : Family) : Bool := dec ((valsOk base = true ∧ rowsOk f.start_ = true) ∧ AllTo (kidTrue base f) f.kids_ f.kids_.length)
end Go.Proofs.YtglplgbhhnmgbaaGreat

namespace Go.Proofs.YtglplgbhhnmgbaaGreat
open Go.RowKit Go.Deep
set_option linter.unusedSimpArgs false
set_option linter.unusedVariables false

theorem erow_sl {b w : World} {rs : List Res} (M : Mine b w rs) {es : List Ent} {p : Ent} (hs : ∀ r ∈ es.map erow, r ∈ rs) (hp : p ∈ es) : Sl w (fun _ => True) 2 p.1.1 p.1.2.1 (p.2.puts_.flatMap Row.cells) := by
  obtain ⟨i, hi⟩ := List.mem_iff_getElem?.1 (hs _ (List.mem_map.2 ⟨p, hp, rfl⟩))
  exact M.row_sl i hi
theorem state_no2 {cells : List Int} {l : List Wrote} {N : Int} (h : ¬ (valsOk cells = true ∧ histOk l = true)) : stateOf cells l N = [] := by unfold stateOf; rw [dec_no h]; rfl
set_option maxRecDepth 8000 in
set_option maxHeartbeats 8000000 in
theorem impl_StateAt (A0 : Option Addr) (n0 c0 : Nat) (cells : List Int) (A : Option Addr) (n c : Nat) (l : List Wrote) (N : Int) (w : World) (S0 S : Nat → Prop) (hs0 : Sl w S0 1 A0 n0 (ints cells)) (hm0 : n0 ≤ 1048576) (hs : SlR Wrote.R 3 w S A n l) (hm : n ≤ 1048576) (hcp : n ≤ c) (hp : ∀ x ∈ l, x.puts_.length ≤ 1048576) :
    Calls Tryz.prog 36 #[.slice A0 n0 c0, .slice A n c, .int .i64 N] w fun e w' => ∃ B m d, e = .returned (.slice B m d) ∧ w'.ownsRow w.heap.size 3 1 (.slice B m d) m (ints (stateOf cells l N)) ∧ Ext w w' := by
  have H : Hid (l.length = n) := hs.1
  have HS0 := Lib.hid hs0
  have HS := Lib.hid hs
  have HP := Lib.hid hp
  clear hs hs0 hp
  have M : Hid (Mine w w []) := Mine.refl w
  cases hv : valsOk cells
  · have HN : Hid (stateOf cells l N = []) := state_no2 fun h => by rw [hv] at h; exact absurd h.1 (by simp)
    go_enter Tryz.func36, Tryz.ntmps36
    go_wp2_with (first | (go_at_call 65; (with_reducible refine (areValues_any _ _ _ cells _ S0 (HS0.out.ext M.out.ext) hm0).mono ?_); rintro e w' ⟨rfl, rfl⟩; rw [hv]))
    go_ret
    have M9 := M.out.nil 3 1
    rw [HN.out]
    exact ⟨_, 0, 0, rfl, M9.row_at 0 rfl, M9.ext⟩
  cases hok : histOk l
  · have HN : Hid (stateOf cells l N = []) := state_no2 fun h => by rw [hok] at h; exact absurd h.2 (by simp)
    go_enter Tryz.func36, Tryz.ntmps36
    go_wp2_with (first | (go_at_call 65; (with_reducible refine (areValues_any _ _ _ cells _ S0 (HS0.out.ext M.out.ext) hm0).mono ?_); rintro e w' ⟨rfl, rfl⟩; rw [hv]) | (go_at_call 34; (with_reducible refine (impl_HistOk A n c l _ S (HS.out.ext Wrote.R_good M.out.ext) hm hcp HP.out).mono ?_); rintro e w' ⟨rfl, x9⟩; replace M := Lib.hid (M.out.on x9); clear x9; rw [hok]))
    go_ret
    have M9 := M.out.nil 3 1
    rw [HN.out]
    exact ⟨_, 0, 0, rfl, M9.row_at 0 rfl, M9.ext⟩
  have HV := Lib.hid hv
  have HOK := Lib.hid hok
  have HC8 := Lib.hid (valsOk_len hv)
  have HN0 := Lib.hid HS0.out.len
  go_enter Tryz.func36, Tryz.ntmps36
  go_wp2_with (first | (go_at_call 65; (with_reducible refine (areValues_any _ _ _ cells _ S0 (HS0.out.ext M.out.ext) hm0).mono ?_); rintro e w' ⟨rfl, rfl⟩; rw [hv]) | (go_at_call 34; (with_reducible refine (impl_HistOk A n c l _ S (HS.out.ext Wrote.R_good M.out.ext) hm hcp HP.out).mono ?_); rintro e w' ⟨rfl, x9⟩; replace M := Lib.hid (M.out.on x9); clear x9; rw [hok]) | (go_at_call 73; (with_reducible refine (copyHist_m A n c l _ S (HS.out.ext Wrote.R_good M.out.ext) hm HP.out).mono ?_); rintro e w' ⟨Bh, dh, es, rfl, hes, M9⟩; have M8 := M.out.call M9; rw [List.append_nil] at M8; replace M := Lib.hid M8; have HES := Lib.hid hes; clear hes M8 M9) | fail)
  clear hv hok
  have HFN : Hid (∀ x ∈ es, entFine x) := fun x hx => by
    obtain ⟨i, hi⟩ := List.mem_iff_getElem?.1 (show x.2 ∈ l by rw [← HES.out]; exact List.mem_map.2 ⟨x, hx, rfl⟩)
    exact (hist_one HOK.out hi).1
  refine (M.out.sortEnts (i := 0) rfl HFN.out hm).mono ?_
  rintro e w1 ⟨rfl, es2, hpm, hsr, M9⟩
  have M8 : Mine w w1 (.row 132 3 Bh n dh (es2.flatMap ecell) :: es2.map erow) := Mine.perm M9 (List.Perm.cons _ (hpm.symm.map erow))
  replace M := Lib.hid M8
  have HPM : Hid ((es2.map (·.2)).Perm l) := by show List.Perm _ _; rw [← HES.out]; exact hpm.map _
  have HSR : Hid ((es2.map (·.2)).Pairwise (fun x y => ¬ y.stamp_ < x.stamp_)) := List.pairwise_map.2 hsr
  clear M8 M9 hpm hsr HFN
  have HP2 : Hid (∀ p ∈ es2, p.2.puts_.length ≤ 1048576) := fun p hp => HP.out p.2 (HPM.out.subset (List.mem_map.2 ⟨p, hp, rfl⟩))
  have HL2 : Hid ((es2.map (·.2)).length = n) := by show _ = _; rw [HPM.out.length_eq, H.out]
  go_wp2_with fail
  refine (copyInts_any A0 n0 c0 cells _ S0 (HS0.out.ext M.out.ext) hm0).mono ?_
  rintro e w2 ⟨B, d, rfl, o2, x2⟩
  replace M := Lib.hid (M.out.own o2 x2)
  clear o2 x2
  obtain ⟨L, hL⟩ : ∃ L, L = es2.map (·.2) := ⟨_, rfl⟩
  have HL := Lib.hid hL
  rw [← hL] at HPM HSR HL2
  clear hL
  go_wp2
  go_loopw [8, 27] (fun u i wr => ∃ (k m d : Nat) (B : Option Addr), k ≤ n ∧ u = .slice B m d ∧ i = .int .i64 k ∧ Hid (Mine w wr (.row 3 1 B m d (ints (runTo L N cells k)) :: .row 132 3 Bh n dh (es2.flatMap ecell) :: es2.map erow))) (fun _ i _ => n - (intOf i).toNat)
  case atStart => exact ⟨0, n0, d, B, Nat.zero_le _, rfl, rfl, M⟩
  case round =>
    clear M
    obtain ⟨k, m, d, B, hk, rfl, rfl, M⟩ := hrel
    have hm8 : m ≤ 8 := by have h := M.out.len1 0 rfl; rw [ints_length] at h; have := runTo_le (L := L) (N := N) (cells := cells) (by rw [HC8.out]; exact Nat.le_refl _) k; omega
    by_cases hlt : (k : Int) < (n : Int)
    rotate_left
    · have e : Hid (k = L.length) := by show k = _; rw [HL2.out]; omega
      go_wp2
      go_ret
      have M9 := M.out
      rw [e.out, ← state_run HV.out HOK.out HPM.out (by first | exact HSR.out | exact HSR.out.imp fun {a b} q => Int.not_lt.2 q) N] at M9
      exact ⟨_, _, _, rfl, M9.row_at 0 rfl, M9.ext⟩
    have HLT : Hid (k < n) := by show _ < _; omega
    obtain ⟨gh, rfl⟩ := M.out.addr 1 rfl (by omega)
    obtain ⟨p, hp⟩ : ∃ p, es2[k]? = some p := ⟨_, List.getElem?_eq_getElem (by have h := HL2.out; rw [HL.out, List.length_map] at h; omega)⟩
    have HMEM : Hid (p ∈ es2) := List.mem_of_getElem? hp
    have HN1 := Lib.hid (HP2.out p HMEM.out)
    have HX : Hid (L[k]? = some p.2) := by show _ = _; rw [HL.out, List.getElem?_map, hp]; rfl
    have HF : Hid (∀ q, q < (ecell p).length → (es2.flatMap ecell)[k * 3 + q]? = (ecell p)[q]?) := fun q hq => flat_get ecell_length es2 k q p hp hq
    have HLEN : Hid (p.2.puts_.length = p.1.2.1) := (erow_sl M.out (fun r hr => List.mem_cons_of_mem _ (List.mem_cons_of_mem _ hr)) HMEM.out).flen Row.cells_length (by omega)
    obtain ⟨⟨Ap, np, dp⟩, x⟩ := p
    simp only [ecell] at HF
    simp only at HN1 HX HLEN
    clear hp
    by_cases hle : x.stamp_ ≤ N
    rotate_left
    · have bl : decide (x.stamp_ ≤ N) = false := decide_eq_false hle
      have HLE := Lib.hid hle
      clear hle
      go_wp2_with (first | ((with_reducible show wpList _ _ _ (⟨_, _, _, _, _, none⟩ :: _) _ _); first | (refine Mine.wp_getrs M.out rfl 132 _ rfl 1 _ rfl rfl [.int .i64 x.stamp_, .int .i64 x.who_, .slice Ap np dp] HF.out _ Tryz.underlying132 (by rfl) (by kernel_rfl) ?_; (try simp only [Act.put, List.setIfInBounds_toArray, List.set_cons_zero, List.set_cons_succ, List.drop_succ_cons, List.drop_zero, List.take_succ_cons, List.take_zero, putAt, ints_set, ints_push, List.getElem_toArray, List.getElem_cons_zero, List.getElem_cons_succ])) | (refine Mine.wp_alloc M.out rfl 132 rfl (.agg #[.int .i64 0, .int .i64 0, .slice none 0 0]) (by kernel_rfl) ?_; intro gx w' M'; (try simp only [Value.cells, Act.put, List.setIfInBounds_toArray, List.set_cons_zero, List.set_cons_succ, List.drop_succ_cons, List.drop_zero, List.take_succ_cons, List.take_zero, putAt, ints_set, ints_push, List.getElem_toArray, List.getElem_cons_zero, List.getElem_cons_succ] at M'); replace M := Lib.hid M'; clear M'; (try simp only [Act.put, List.setIfInBounds_toArray, List.set_cons_zero, List.set_cons_succ, List.drop_succ_cons, List.drop_zero, List.take_succ_cons, List.take_zero, putAt, ints_set, ints_push, List.getElem_toArray, List.getElem_cons_zero, List.getElem_cons_succ])) | (refine Mine.wp_sets M.out rfl 132 _ _ rfl rfl 0 _ rfl rfl _ rfl (Nat.le_of_ble_eq_true rfl) (by simp [Value.oneCell']) (by kernel_rfl) ?_; intro w' M'; (try simp only [Act.put, List.setIfInBounds_toArray, List.set_cons_zero, List.set_cons_succ, List.drop_succ_cons, List.drop_zero, List.take_succ_cons, List.take_zero, putAt, ints_set, ints_push, List.getElem_toArray, List.getElem_cons_zero, List.getElem_cons_succ] at M'); replace M := Lib.hid M'; clear M') | (refine Mine.wp_get M.out rfl _ _ rfl 0 _ rfl rfl _ rfl _ (by first | exact Tryz.underlying3 | exact Tryz.underlying71) (by rfl) ?_; (try simp only [Act.put, List.setIfInBounds_toArray, List.set_cons_zero, List.set_cons_succ, List.drop_succ_cons, List.drop_zero, List.take_succ_cons, List.take_zero, putAt, ints_set, ints_push, List.getElem_toArray, List.getElem_cons_zero, List.getElem_cons_succ]))))
      go_roundw
      case rel => exact ⟨k + 1, m, d, B, HLT.out, rfl, by go_num, Lib.hid (by rw [runTo_no HX.out HLE.out]; exact M.out.tail)⟩
      case measure => have := HLT.out; simp [intOf]; omega
    have bl : decide (x.stamp_ ≤ N) = true := decide_eq_true hle
    have HLE := Lib.hid hle
    clear hle
    go_wp2_with (first | (go_at_call 77; (with_reducible refine (impl_Overlay B m d (runTo L N cells k) Ap np dp x.puts_ _ _ (M.out.row_sl 1 rfl) (by omega) _ (erow_sl M.out (fun r hr => List.mem_cons_of_mem _ (List.mem_cons_of_mem _ (List.mem_cons_of_mem _ hr))) HMEM.out) (by have h1 := HLEN.out; have h2 := HN1.out; omega)).mono ?_); rintro e w5 ⟨B5, m5, d5, rfl, o5, x5⟩; rw [← runTo_yes (cells := cells) HX.out HLE.out] at o5; replace M := Lib.hid (M.out.own o5 x5); clear o5 x5) | ((with_reducible show wpList _ _ _ (⟨_, _, _, _, _, none⟩ :: _) _ _); first | (refine Mine.wp_getrs M.out rfl 132 _ rfl 1 _ rfl rfl [.int .i64 x.stamp_, .int .i64 x.who_, .slice Ap np dp] HF.out _ Tryz.underlying132 (by rfl) (by kernel_rfl) ?_; (try simp only [Act.put, List.setIfInBounds_toArray, List.set_cons_zero, List.set_cons_succ, List.drop_succ_cons, List.drop_zero, List.take_succ_cons, List.take_zero, putAt, ints_set, ints_push, List.getElem_toArray, List.getElem_cons_zero, List.getElem_cons_succ])) | (refine Mine.wp_alloc M.out rfl 132 rfl (.agg #[.int .i64 0, .int .i64 0, .slice none 0 0]) (by kernel_rfl) ?_; intro gx w' M'; (try simp only [Value.cells, Act.put, List.setIfInBounds_toArray, List.set_cons_zero, List.set_cons_succ, List.drop_succ_cons, List.drop_zero, List.take_succ_cons, List.take_zero, putAt, ints_set, ints_push, List.getElem_toArray, List.getElem_cons_zero, List.getElem_cons_succ] at M'); replace M := Lib.hid M'; clear M'; (try simp only [Act.put, List.setIfInBounds_toArray, List.set_cons_zero, List.set_cons_succ, List.drop_succ_cons, List.drop_zero, List.take_succ_cons, List.take_zero, putAt, ints_set, ints_push, List.getElem_toArray, List.getElem_cons_zero, List.getElem_cons_succ])) | (refine Mine.wp_sets M.out rfl 132 _ _ rfl rfl 0 _ rfl rfl _ rfl (Nat.le_of_ble_eq_true rfl) (by simp [Value.oneCell']) (by kernel_rfl) ?_; intro w' M'; (try simp only [Act.put, List.setIfInBounds_toArray, List.set_cons_zero, List.set_cons_succ, List.drop_succ_cons, List.drop_zero, List.take_succ_cons, List.take_zero, putAt, ints_set, ints_push, List.getElem_toArray, List.getElem_cons_zero, List.getElem_cons_succ] at M'); replace M := Lib.hid M'; clear M') | (refine Mine.wp_get M.out rfl _ _ rfl 0 _ rfl rfl _ rfl _ (by first | exact Tryz.underlying3 | exact Tryz.underlying71) (by rfl) ?_; (try simp only [Act.put, List.setIfInBounds_toArray, List.set_cons_zero, List.set_cons_succ, List.drop_succ_cons, List.drop_zero, List.take_succ_cons, List.take_zero, putAt, ints_set, ints_push, List.getElem_toArray, List.getElem_cons_zero, List.getElem_cons_succ]))))
    go_roundw
    case rel => exact ⟨k + 1, m5, d5, B5, HLT.out, rfl, by go_num, Lib.hid (M.out.sub (List.Sublist.cons_cons _ (List.Sublist.cons _ (List.Sublist.cons _ (List.Sublist.refl _)))))⟩
    case measure => have := HLT.out; simp [intOf]; omega

end Go.Proofs.YtglplgbhhnmgbaaGreat
