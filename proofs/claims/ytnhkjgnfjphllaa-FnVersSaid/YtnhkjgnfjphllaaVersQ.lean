/- The plain law of FnVers: versions put in the order of the stamps read as the states; so do the trimmed ones. No condition. -/
import Derived.Test.YtnhkjgnfjphllaaVStat
import Derived.Test.YtnhkjgnfjphllaaVTrim
import Derived.Test.YtnhkjgnfjphllaaVPut
namespace Go.Proofs.Ytnhkjgnfjphllaa
open Go.RowKit Go.Deep
set_option linter.unusedSimpArgs false
set_option linter.unusedVariables false

/-! ### Reading -/
def readAll (b : Int) (l : List Ver) (c n : Int) : Int := l.foldl (fun m x => if x.cell = c ∧ x.stamp ≤ n then x.val else m) b
theorem readTo_all (b : Int) (l : List Ver) (c n : Int) : readTo b l c n l.length = readAll b l c n := by unfold readTo readAll; rw [List.take_length]
theorem rd_append (b : Int) (l r : List Ver) (c n : Int) : readAll b (l ++ r) c n = readAll (readAll b l c n) r c n := by unfold readAll; rw [List.foldl_append]
theorem rd_cons (b : Int) (x : Ver) (l : List Ver) (c n : Int) : readAll b (x :: l) c n = readAll (if x.cell = c ∧ x.stamp ≤ n then x.val else b) l c n := rfl
theorem rd_skip {l : List Ver} {c : Int} (h : ∀ x ∈ l, x.cell ≠ c) (b n : Int) : readAll b l c n = b := by
  induction l generalizing b with
  | nil => rfl
  | cons x l ih =>
    rw [rd_cons, if_neg (fun q => h x (List.mem_cons_self ..) q.1)]
    exact ih (fun y hy => h y (List.mem_cons_of_mem _ hy)) b
theorem rd_filter (l : List Ver) (c n : Int) : ∀ b, readAll b (l.filter (fun x => decide (x.cell = c))) c n = readAll b l c n := by
  induction l with
  | nil => intro b; rfl
  | cons x l ih =>
    intro b
    by_cases hx : x.cell = c
    · rw [List.filter_cons_of_pos (by simpa using hx), rd_cons, rd_cons, ih]
    · rw [List.filter_cons_of_neg (by simpa using hx), rd_cons, if_neg (fun q => hx q.1), ih]
theorem new_cell {st : Int} {ps : List Row} {k : Nat} {x : Ver} (h : x ∈ newOf st ps k) : x.cell = (k : Int) ∧ x.stamp = st ∧ lastV ps (k : Int) = some x.val := by
  unfold newOf at h
  split at h
  · rename_i v hv
    simp at h
    subst h
    exact ⟨rfl, rfl, hv⟩
  · simp at h
theorem rd_merge_out {l : List Ver} {st : Int} {ps : List Row} {k : Nat} {c : Int} (hc : (k : Int) ≤ c) (b n : Int) : readAll b (mergeTo l st ps k) c n = b :=
  rd_skip (fun x hx => by have := merge_cell hx; omega) b n
theorem rd_new (st : Int) (ps : List Row) (k : Nat) (b n : Int) : readAll b (newOf st ps k) (k : Int) n = if st ≤ n then (lastV ps (k : Int)).getD b else b := by
  unfold newOf
  cases lastV ps (k : Int) with
  | none => simp [readAll]
  | some v => simp [readAll]
theorem rd_merge (l : List Ver) (st : Int) (ps : List Row) (c : Nat) (b n : Int) : ∀ k, c < k → readAll b (mergeTo l st ps k) (c : Int) n = if st ≤ n then (lastV ps (c : Int)).getD (readAll b l (c : Int) n) else readAll b l (c : Int) n
  | 0, h => absurd h (Nat.not_lt_zero _)
  | k + 1, h => by
    rw [mergeTo, rd_append]
    by_cases e : c = k
    · subst e
      rw [rd_merge_out (Int.le_refl _), rd_append, rd_filter, rd_new]
    · rw [rd_merge l st ps c b n k (by omega), rd_skip]
      intro x hx
      rcases List.mem_append.1 hx with q | q
      · have := (List.mem_filter.1 q).2; simp at this; omega
      · have := (new_cell q).1; omega
/-! ### Overlay -/
theorem last_val {ps : List Row} (h : rowsOk ps = true) {c v : Int} : ∀ {k : Nat}, lastI ps c k = some v → 0 ≤ v ∧ v ≤ 65535
  | 0, q => by simp [lastI] at q
  | k + 1, q => by
    cases hk : ps[k]? with
    | none => rw [lastI, hk] at q; exact last_val h q
    | some r =>
      by_cases e : r.cell = c
      · rw [lastI_hit hk e] at q
        injection q with q
        subst q
        exact ((dec_true h).2 k (List.getElem?_eq_some_iff.1 hk).1 r hk).2
      · rw [lastI_miss hk e] at q; exact last_val h q
theorem lastV_val {ps : List Row} {c v : Int} (q : lastV ps c = some v) : 0 ≤ v ∧ v ≤ 65535 := by
  unfold lastV at q
  split at q
  · rename_i h; exact last_val h q
  · cases q
theorem set_last {now : List Int} {ps : List Row} (h : rowsOk ps = true) (hn : now.length = 8) {c : Nat} (hc : c < 8) : ∀ k, k ≤ ps.length → (setTo now ps k)[c]? = some ((lastI ps (c : Int) k).getD (now.getD c 0))
  | 0, _ => by simp [setTo, lastI, List.getD, List.getElem?_eq_getElem (show c < now.length by omega)]
  | k + 1, hk => by
    have ih := set_last h hn hc k (by omega)
    have hx := List.getElem?_eq_getElem (show k < ps.length by omega)
    generalize ps[k] = r at hx
    have hr := ((dec_true h).2 k (by omega) r hx).1
    rw [setTo_succ hx, List.getElem?_set]
    by_cases e : r.cell = (c : Int)
    · rw [if_pos (by omega), if_pos (by rw [setTo_len]; omega), lastI_hit hx e]
      rfl
    · rw [if_neg (by omega), lastI_miss hx e]
      exact ih
theorem over_get {now : List Int} {ps : List Row} (hv : valsOk now = true) (h : rowsOk ps = true) {c : Nat} (hc : c < 8) : (overlayOf now ps)[c]? = some ((lastV ps (c : Int)).getD (now.getD c 0)) := by
  unfold overlayOf lastV
  rw [dec_yes ⟨hv, h⟩, if_pos rfl, if_pos h]
  exact set_last h (valsOk_len hv) hc _ (Nat.le_refl _)
theorem vals_at {l : List Int} (h : valsOk l = true) {c : Nat} (hc : c < 8) : 0 ≤ l.getD c 0 ∧ l.getD c 0 ≤ 65535 := by
  have h8 := valsOk_len h
  have hx := List.getElem?_eq_getElem (show c < l.length by omega)
  have := (dec_true h).2 c (by omega) _ hx
  rw [List.getD, hx]
  exact this
theorem vals_mk {l : List Int} (h8 : l.length = 8) (h : ∀ c x, c < 8 → l[c]? = some x → 0 ≤ x ∧ x ≤ 65535) : valsOk l = true :=
  dec_yes ⟨h8, fun i hi x hx => h i x (by omega) hx⟩
theorem over_len {now : List Int} {ps : List Row} (hv : valsOk now = true) (h : rowsOk ps = true) : (overlayOf now ps).length = 8 := by
  unfold overlayOf
  rw [dec_yes ⟨hv, h⟩, if_pos rfl, setTo_len, valsOk_len hv]
theorem over_ok {now : List Int} {ps : List Row} (hv : valsOk now = true) (h : rowsOk ps = true) : valsOk (overlayOf now ps) = true :=
  vals_mk (over_len hv h) fun c x hc hx => by
    rw [over_get hv h hc] at hx
    injection hx with hx
    subst hx
    cases q : lastV ps (c : Int) with
    | none => exact vals_at hv hc
    | some v => exact lastV_val q
/-! ### What is put is right -/
theorem put_len {b : List Int} {f : Int} {l : List Ver} (h : versOk b f l = true) (st : Int) (ps : List Row) : (mergeTo l st ps 8).length = l.length + (netR ps).length := by
  have h0 : ∀ x ∈ l, 0 ≤ x.cell := fun x hx => (vers_mem h hx).1.1
  have h8 : l.filter (fun x => decide (x.cell < ((8 : Nat) : Int))) = l := by
    rw [List.filter_eq_self]
    intro x hx
    have := (vers_mem h hx).1.2
    simp; omega
  have hm := (merge_perm l st ps h0 8).length_eq
  rw [h8, List.length_append, List.length_map] at hm
  exact hm
theorem merge_mem {l : List Ver} {st : Int} {ps : List Row} {x : Ver} : ∀ {k : Nat}, x ∈ mergeTo l st ps k → x ∈ l ∨ ∃ c : Nat, c < k ∧ x.cell = (c : Int) ∧ x.stamp = st ∧ lastV ps (c : Int) = some x.val
  | 0, h => by simp [mergeTo] at h
  | k + 1, h => by
    rw [mergeTo] at h
    rcases List.mem_append.1 h with q | q
    · rcases merge_mem q with r | ⟨c, hc, r⟩
      · exact .inl r
      · exact .inr ⟨c, by omega, r⟩
    · rcases List.mem_append.1 q with r | r
      · exact .inl (List.mem_filter.1 r).1
      · exact .inr ⟨k, by omega, new_cell r⟩
theorem pairwise_all {f : Int} {l : List Ver} (hp : l.Pairwise verLt) (h : ∀ x ∈ l, (0 ≤ x.cell ∧ x.cell ≤ 7) ∧ (f + 1 ≤ x.stamp ∧ x.stamp ≤ 1000000) ∧ (0 ≤ x.val ∧ x.val ≤ 65535)) : AllTo (verAt f l) l l.length := by
  intro i hi x hx
  have := h x (List.mem_of_getElem? hx)
  refine ⟨this.1, this.2.1, this.2.2, fun y h0 hy => ?_⟩
  obtain ⟨i1, e1⟩ := List.getElem?_eq_some_iff.1 hx
  obtain ⟨i2, e2⟩ := List.getElem?_eq_some_iff.1 hy
  have := List.pairwise_iff_getElem.1 hp (i - 1) i i2 i1 (by omega)
  rw [e1, e2] at this
  exact this
theorem put_right {b : List Int} {f : Int} {l : List Ver} {st : Int} {ps : List Row} (h : versOk b f l = true ∧ (versLast b f l + 1 ≤ st ∧ st ≤ 1000000) ∧ rowsOk ps = true ∧ l.length + (netR ps).length ≤ 60) : versOk b f (mergeTo l st ps 8) = true := by
  obtain ⟨h1, h2, h3, h4⟩ := h
  obtain ⟨p1, p2, p3, p4⟩ := versOk_parts h1
  refine dec_yes ⟨p1, p2, by rw [put_len h1]; exact h4, pairwise_all (merge_sorted (vers_pairwise p4) (fun x hx => by have := stamp_last h1 hx; omega) 8) fun x hx => ?_⟩
  rcases merge_mem hx with q | ⟨c, hc, q1, q2, q3⟩
  · exact vers_mem h1 q
  · have := last_from h1
    exact ⟨by omega, by omega, lastV_val q3⟩
theorem net_has {ps : List Row} {c : Nat} {v : Int} (h : lastV ps (c : Int) = some v) : ∀ k, c < k → (⟨(c : Int), v⟩ : Row) ∈ netTo ps k
  | 0, q => absurd q (Nat.not_lt_zero _)
  | k + 1, q => by
    by_cases e : c = k
    · subst e; rw [netTo_some h]; exact List.mem_append_right _ (List.mem_singleton.2 rfl)
    · have ih := net_has h k (by omega)
      cases hv : lastV ps (k : Int) with
      | none => rw [netTo_none hv]; exact ih
      | some u => rw [netTo_some hv]; exact List.mem_append_left _ ih
/-- What is put a second time is not taken, if there is anything in it. -/
theorem put_twice {b : List Int} {f : Int} {l : List Ver} {st : Int} {ps : List Row} (h : versOk b f l = true ∧ (versLast b f l + 1 ≤ st ∧ st ≤ 1000000) ∧ rowsOk ps = true ∧ l.length + (netR ps).length ≤ 60) (hp : 0 < ps.length) : putOk b f (mergeTo l st ps 8) st ps = false := by
  have hr := put_right h
  refine dec_no fun q => ?_
  have hx := List.getElem?_eq_getElem (show ps.length - 1 < ps.length by omega)
  generalize ps[ps.length - 1] = r at hx
  have hc := ((dec_true h.2.2.1).2 _ (by omega) r hx).1
  obtain ⟨c, hcc⟩ : ∃ c : Nat, r.cell = (c : Int) := ⟨r.cell.toNat, by omega⟩
  have hl : lastV ps (c : Int) = some r.val := by
    unfold lastV
    rw [if_pos h.2.2.1]
    have : ps.length = ps.length - 1 + 1 := by omega
    rw [this]
    exact lastI_hit hx hcc
  have h0 : ∀ x ∈ l, 0 ≤ x.cell := fun x hx => (vers_mem h.1 hx).1.1
  have hm : (⟨(c : Int), st, r.val⟩ : Ver) ∈ mergeTo l st ps 8 := (merge_perm l st ps h0 8).symm.subset (List.mem_append_right _ (List.mem_map.2 ⟨_, net_has hl 8 (by omega), rfl⟩))
  have := stamp_last hr hm
  have h2 := q.2.1.1
  simp only at this
  omega
/-! ### The state -/
theorem state_at {b : List Int} {f : Int} {l : List Ver} {n : Int} (h : versOk b f l = true) (hf : f ≤ n) {c : Nat} (hc : c < 8) : (versState b f l n)[c]? = some (readAll (b.getD c 0) l (c : Int) n) := by
  unfold versState stateTo
  rw [dec_yes ⟨h, hf⟩, if_pos rfl, List.getElem?_map, List.getElem?_range hc]
  show some (versRead b f l (c : Int) n) = _
  unfold versRead readOk
  rw [dec_yes ⟨h, by omega, hf⟩, if_pos rfl, Int.toNat_natCast, readTo_all]
theorem state_len {b : List Int} {f : Int} {l : List Ver} {n : Int} (h : versOk b f l = true) (hf : f ≤ n) : (versState b f l n).length = 8 := by
  unfold versState stateTo
  rw [dec_yes ⟨h, hf⟩, if_pos rfl]; simp
theorem list8 {l r : List Int} (hl : l.length = 8) (hr : r.length = 8) (h : ∀ c, c < 8 → l[c]? = r[c]?) : l = r := by
  apply List.ext_getElem?
  intro i
  by_cases hi : i < 8
  · exact h i hi
  · rw [List.getElem?_eq_none (by omega), List.getElem?_eq_none (by omega)]
theorem state_put {b : List Int} {f : Int} {l : List Ver} {st n : Int} {ps : List Row} (h : versOk b f l = true ∧ (versLast b f l + 1 ≤ st ∧ st ≤ 1000000) ∧ rowsOk ps = true ∧ l.length + (netR ps).length ≤ 60) (hf : f ≤ n) (hv : valsOk (versState b f l n) = true) :
    versState b f (mergeTo l st ps 8) n = if st ≤ n then overlayOf (versState b f l n) ps else versState b f l n := by
  have hr := put_right h
  refine list8 (state_len hr hf) ?_ fun c hc => ?_
  · split
    · exact over_len hv h.2.2.1
    · exact state_len h.1 hf
  rw [state_at hr hf hc, rd_merge l st ps c _ n 8 hc]
  split
  · have e := state_at h.1 hf hc
    have e2 : (versState b f l n).getD c 0 = readAll (b.getD c 0) l (c : Int) n := by rw [List.getD_eq_getElem?_getD, e]; rfl
    rw [over_get hv h.2.2.1 hc, e2]
  · rw [state_at h.1 hf hc]
/-! ### All entries of one stamp -/
noncomputable def vAll (b : List Int) (l : List Wrote) (s : Int) (V : List Ver) : Nat → List Ver
  | 0 => V
  | j + 1 => match l[j]? with
    | some y => if dec (y.stamp_ = s) = true then putL b 0 (vAll b l s V j) s y.puts_ else vAll b l s V j
    | none => vAll b l s V j
theorem vAll_yes {b : List Int} {l : List Wrote} {s : Int} {V : List Ver} {j : Nat} {y : Wrote} (hy : l[j]? = some y) (h : y.stamp_ = s) : vAll b l s V (j + 1) = putL b 0 (vAll b l s V j) s y.puts_ := by
  rw [vAll, hy]; simp only; rw [dec_yes h]; rfl
theorem vAll_no {b : List Int} {l : List Wrote} {s : Int} {V : List Ver} {j : Nat} {y : Wrote} (hy : l[j]? = some y) (h : ¬ y.stamp_ = s) : vAll b l s V (j + 1) = vAll b l s V j := by
  rw [vAll, hy]; simp only; rw [dec_no h]; rfl
noncomputable def vTo (b : List Int) (l : List Wrote) (S : List Int) : Nat → List Ver
  | 0 => []
  | i + 1 => match S[i]? with
    | some s => vAll b l s (vTo b l S i) l.length
    | none => vTo b l S i
theorem vTo_next {b : List Int} {l : List Wrote} {S : List Int} {i : Nat} {s : Int} (h : S[i]? = some s) : vTo b l S (i + 1) = vAll b l s (vTo b l S i) l.length := by rw [vTo, h]
theorem stamp_once {l : List Wrote} (h : histOk l = true) {i j : Nat} {x y : Wrote} (hx : l[i]? = some x) (hy : l[j]? = some y) (e : x.stamp_ = y.stamp_) : i = j := by
  rcases Nat.lt_trichotomy i j with c | c | c
  · exact absurd e ((hist_one h hy).2.2.2 i x c hx)
  · exact c
  · exact absurd e.symm ((hist_one h hx).2.2.2 j y c hy)
theorem vAll_is {b : List Int} {l : List Wrote} (h : histOk l = true) {s : Int} {V : List Ver} {p : Nat} {y : Wrote} (hy : l[p]? = some y) (hs : y.stamp_ = s) : ∀ j, j ≤ l.length → vAll b l s V j = if j ≤ p then V else putL b 0 V s y.puts_
  | 0, _ => by rw [if_pos (Nat.zero_le _)]; rfl
  | j + 1, hj => by
    have ih := vAll_is (b := b) (V := V) h hy hs j (by omega)
    have hx := List.getElem?_eq_getElem (show j < l.length by omega)
    generalize l[j] = x at hx
    by_cases e : x.stamp_ = s
    · obtain rfl : j = p := stamp_once h hx hy (by rw [e, hs])
      rw [vAll_yes hx e, ih, if_pos (Nat.le_refl _), if_neg (by omega)]
      rw [hy] at hx
      injection hx with hx
      rw [hx]
    · have : j ≠ p := fun q => e (by subst q; rw [hy] at hx; injection hx with hx; rw [← hx]; exact hs)
      rw [vAll_no hx e, ih]
      by_cases c : j ≤ p
      · rw [if_pos c, if_pos (by omega)]
      · rw [if_neg c, if_neg (by omega)]
theorem ovAll_is {l : List Wrote} (h : histOk l = true) {s : Int} {V : List Int} {p : Nat} {y : Wrote} (hy : l[p]? = some y) (hs : y.stamp_ = s) : ∀ j, j ≤ l.length → ovAll l s V j = if j ≤ p then V else overlayOf V y.puts_
  | 0, _ => by rw [if_pos (Nat.zero_le _)]; rfl
  | j + 1, hj => by
    have ih := ovAll_is (V := V) h hy hs j (by omega)
    have hx := List.getElem?_eq_getElem (show j < l.length by omega)
    generalize l[j] = x at hx
    by_cases e : x.stamp_ = s
    · obtain rfl : j = p := stamp_once h hx hy (by rw [e, hs])
      rw [ovAll_yes hx e, ih, if_pos (Nat.le_refl _), if_neg (by omega)]
      rw [hy] at hx
      injection hx with hx
      rw [hx]
    · have : j ≠ p := fun q => e (by subst q; rw [hy] at hx; injection hx with hx; rw [← hx]; exact hs)
      rw [ovAll_no hx e, ih]
      by_cases c : j ≤ p
      · rw [if_pos c, if_pos (by omega)]
      · rw [if_neg c, if_neg (by omega)]
theorem stamps_is {l : List Wrote} (h : histOk l = true) : stampsOf l = sorted l := by unfold stampsOf; rw [if_pos h]
theorem st_ok {l : List Wrote} (h : histOk l = true) {cells : List Int} (hv : valsOk cells = true) : ∀ i, i ≤ l.length → valsOk (stTo l (stampsOf l) cells i) = true
  | 0, _ => hv
  | i + 1, hi => by
    have ih := st_ok h hv i (by omega)
    obtain ⟨s, hx⟩ : ∃ s, (stampsOf l)[i]? = some s := ⟨_, List.getElem?_eq_getElem (show i < (stampsOf l).length by rw [stamps_is h, sorted_len]; omega)⟩
    obtain ⟨p, y, hy, hs⟩ := sorted_mem.1 (by rw [← stamps_is h]; exact List.mem_of_getElem? hx : s ∈ sorted l)
    have hp := (List.getElem?_eq_some_iff.1 hy).1
    rw [stTo_next hx, ovAll_is h hy hs _ (Nat.le_refl _), if_neg (by omega)]
    exact over_ok ih (hist_one h hy).2.2.1
theorem cnt_le (S : List Int) (n : Int) : cntLe S n ≤ S.length := by unfold cntLe; exact (List.takeWhile_sublist _).length_le
theorem cnt_lt {S : List Int} {n s : Int} : ∀ {i : Nat}, (∀ (p q : Nat) (x y : Int), p < q → S[p]? = some x → S[q]? = some y → x < y) → S[i]? = some s → (i < cntLe S n ↔ s ≤ n) := by
  induction S with
  | nil => intro i _ h; simp at h
  | cons x S ih =>
    intro i hs h
    unfold cntLe at ih ⊢
    rw [List.takeWhile_cons]
    cases i with
    | zero =>
      simp at h
      subst h
      by_cases c : x ≤ n <;> simp [c]
    | succ i =>
      have h' : S[i]? = some s := by simpa using h
      have hlt := hs 0 (i + 1) x s (by omega) rfl h
      have ih' := ih (i := i) (fun p q a b hpq ha hb => hs (p + 1) (q + 1) a b (by omega) (by simpa using ha) (by simpa using hb)) h'
      by_cases c : x ≤ n
      · simp only [c, decide_true, if_true, List.length_cons]
        rw [← ih']
        omega
      · simp only [c, decide_false, Bool.false_eq_true, if_false, List.length_nil]
        omega
/-- What is right behind the first i stamps. -/
structure VInv (b : List Int) (l : List Wrote) (i : Nat) (V : List Ver) : Prop where
  ok : versOk b 0 V = true
  len : V.length ≤ 8 * i
  stamps : ∀ x ∈ V, ∃ (p : Nat) (s : Int), p < i ∧ (sorted l)[p]? = some s ∧ x.stamp = s
  state : ∀ n, 0 ≤ n → versState b 0 V n = stTo l (stampsOf l) b (min i (cntLe (stampsOf l) n))
theorem lastTo_mem (f : Int) (l : List Ver) : ∀ k, k ≤ l.length → lastTo f l k = f ∨ ∃ x ∈ l, x.stamp = lastTo f l k
  | 0, _ => by simp [lastTo]
  | k + 1, hk => by
    have hx := List.getElem?_eq_getElem (show k < l.length by omega)
    generalize l[k] = x at hx
    rw [lastTo_succ hx]
    rcases lastTo_mem f l k (by omega) with q | ⟨y, hy, q⟩
    · by_cases c : x.stamp ≤ f
      · left; rw [q]; omega
      · right; exact ⟨x, List.mem_of_getElem? hx, by rw [q]; omega⟩
    · by_cases c : x.stamp ≤ lastTo f l k
      · right; exact ⟨y, hy, by omega⟩
      · right; exact ⟨x, List.mem_of_getElem? hx, by omega⟩
theorem VInv.zero {b : List Int} {l : List Wrote} (hv : valsOk b = true) : VInv b l 0 [] where
  ok := dec_yes ⟨hv, by omega, by simp, fun i hi => absurd hi (Nat.not_lt_zero _)⟩
  len := by simp
  stamps := fun x hx => by cases hx
  state := fun n hn => by
    have hok : versOk b 0 [] = true := dec_yes ⟨hv, by omega, by simp, fun i hi => absurd hi (Nat.not_lt_zero _)⟩
    rw [Nat.zero_min]
    refine list8 (state_len hok hn) (valsOk_len hv) fun c hc => ?_
    rw [state_at hok hn hc]
    show some (b.getD c 0) = b[c]?
    rw [List.getD, List.getElem?_eq_getElem (show c < b.length by rw [valsOk_len hv]; omega)]
    rfl
/-- What the next entry may: it is taken. -/
theorem VInv.may {b : List Int} {l : List Wrote} (h : histOk l = true) (hl : l.length ≤ 6) {i : Nat} {V : List Ver} (I : VInv b l i V) {s : Int} (hs : (stampsOf l)[i]? = some s) {p : Nat} {y : Wrote} (hy : l[p]? = some y) (hys : y.stamp_ = s) :
    versOk b 0 V = true ∧ (versLast b 0 V + 1 ≤ s ∧ s ≤ 1000000) ∧ rowsOk y.puts_ = true ∧ V.length + (netR y.puts_).length ≤ 60 := by
  have hi : i < l.length := by have := (List.getElem?_eq_some_iff.1 hs).1; rw [stamps_is h, sorted_len] at this; exact this
  rw [stamps_is h] at hs
  have hin := stamp_in h (List.mem_of_getElem? hs)
  refine ⟨I.ok, ⟨?_, hin.2⟩, (hist_one h hy).2.2.1, ?_⟩
  · unfold versLast
    rw [if_pos I.ok]
    rcases lastTo_mem 0 V V.length (Nat.le_refl _) with q | ⟨x, hx, q⟩
    · rw [q]; omega
    · rw [← q]
      obtain ⟨a, t, ha, ht, e⟩ := I.stamps x hx
      rw [e]
      have := sorted_lt h ha ht hs
      omega
  · have h1 := I.len
    have h2 : (netR y.puts_).length ≤ 8 := netTo_len _ 8
    omega
theorem VInv.next {b : List Int} {l : List Wrote} (h : histOk l = true) (hv : valsOk b = true) (hl : l.length ≤ 6) {i : Nat} {V : List Ver} (I : VInv b l i V) {s : Int} (hs : (stampsOf l)[i]? = some s) : VInv b l (i + 1) (vAll b l s V l.length) := by
  have hi : i < l.length := by have := (List.getElem?_eq_some_iff.1 hs).1; rw [stamps_is h, sorted_len] at this; exact this
  obtain ⟨p, y, hy, hys⟩ := sorted_mem.1 (by rw [← stamps_is h]; exact List.mem_of_getElem? hs : s ∈ sorted l)
  have hp := (List.getElem?_eq_some_iff.1 hy).1
  have hm := I.may h hl hs hy hys
  rw [vAll_is h hy hys _ (Nat.le_refl _), if_neg (by omega), (put_yes hm).2]
  refine ⟨put_right hm, ?_, ?_, ?_⟩
  · rw [put_len I.ok]
    have h1 := I.len
    have h2 : (netR y.puts_).length ≤ 8 := netTo_len _ 8
    omega
  · intro x hx
    rcases merge_mem hx with q | ⟨c, _, _, q, _⟩
    · obtain ⟨a, t, ha, ht, e⟩ := I.stamps x q
      exact ⟨a, t, by omega, ht, e⟩
    · exact ⟨i, s, by omega, by rw [← stamps_is h]; exact hs, q⟩
  · intro n hn
    have hcl := cnt_lt (n := n) (fun p q x y hpq hx hy => sorted_lt h hpq (by rw [← stamps_is h]; exact hx) (by rw [← stamps_is h]; exact hy)) hs
    have hlen : cntLe (stampsOf l) n ≤ l.length := by have := cnt_le (stampsOf l) n; rw [stamps_is h, sorted_len] at this; rw [stamps_is h]; exact this
    rw [state_put hm hn (by rw [I.state n hn]; exact st_ok h hv _ (by omega)), I.state n hn]
    by_cases c : s ≤ n
    · have c2 := hcl.2 c
      rw [if_pos c, Nat.min_eq_left (Nat.le_of_lt c2), Nat.min_eq_left c2, stTo_next hs, ovAll_is h hy hys _ (Nat.le_refl _), if_neg (by omega)]
    · have c2 : ¬ i < cntLe (stampsOf l) n := fun q => c (hcl.1 q)
      rw [if_neg c, Nat.min_eq_right (by omega), Nat.min_eq_right (by omega)]
theorem VInv.all {b : List Int} {l : List Wrote} (h : histOk l = true) (hv : valsOk b = true) (hl : l.length ≤ 6) : ∀ i, i ≤ l.length → VInv b l i (vTo b l (stampsOf l) i)
  | 0, _ => VInv.zero hv
  | i + 1, hi => by
    have ih := VInv.all h hv hl i (by omega)
    have hx := List.getElem?_eq_getElem (show i < (stampsOf l).length by rw [stamps_is h, sorted_len]; omega)
    rw [vTo_next hx]
    exact ih.next h hv hl hx
/-- The versions at the end. -/
noncomputable def vEnd (b : List Int) (l : List Wrote) : List Ver := vTo b l (stampsOf l) l.length
theorem end_state {b : List Int} {l : List Wrote} (h : histOk l = true) (hv : valsOk b = true) (hl : l.length ≤ 6) {n : Int} (hn : 0 ≤ n) : versState b 0 (vEnd b l) n = stateOf b l n := by
  have I := VInv.all h hv hl l.length (Nat.le_refl _)
  rw [state_yes ⟨hv, h⟩]
  have hlen : cntLe (stampsOf l) n ≤ l.length := by have := cnt_le (stampsOf l) n; rw [stamps_is h, sorted_len] at this; rw [stamps_is h]; exact this
  have := I.state n hn
  rw [Nat.min_eq_right hlen] at this
  exact this
/-- What the walk meets at entry k behind i stamps. -/
theorem walk_put {b : List Int} {l : List Wrote} (h : histOk l = true) (hv : valsOk b = true) (hl : l.length ≤ 6) {i k : Nat} {s : Int} (hs : (stampsOf l)[i]? = some s) {y : Wrote} (hy : l[k]? = some y) (hys : y.stamp_ = s) :
    putOk b 0 (vAll b l s (vTo b l (stampsOf l) i) k) s y.puts_ = true ∧ (0 < y.puts_.length → putOk b 0 (vAll b l s (vTo b l (stampsOf l) i) (k + 1)) s y.puts_ = false) := by
  have hi : i < l.length := by have := (List.getElem?_eq_some_iff.1 hs).1; rw [stamps_is h, sorted_len] at this; exact this
  have hk := (List.getElem?_eq_some_iff.1 hy).1
  have I := VInv.all h hv hl i (by omega)
  have hm := I.may h hl hs hy hys
  rw [vAll_is h hy hys k (by omega), if_pos (Nat.le_refl _), vAll_is h hy hys (k + 1) (by omega), if_neg (by omega), (put_yes hm).2]
  exact ⟨(put_yes hm).1, fun q => put_twice hm q⟩
theorem walk_len {b : List Int} {l : List Wrote} (h : histOk l = true) (hv : valsOk b = true) (hl : l.length ≤ 6) {i k : Nat} {s : Int} (hs : (stampsOf l)[i]? = some s) (hk : k ≤ l.length) : (vAll b l s (vTo b l (stampsOf l) i) k).length ≤ 60 := by
  have hi : i < l.length := by have := (List.getElem?_eq_some_iff.1 hs).1; rw [stamps_is h, sorted_len] at this; exact this
  obtain ⟨p, y, hy, hys⟩ := sorted_mem.1 (by rw [← stamps_is h]; exact List.mem_of_getElem? hs : s ∈ sorted l)
  have I := VInv.all h hv hl i (by omega)
  have hm := I.may h hl hs hy hys
  rw [vAll_is h hy hys k hk]
  split
  · have := I.len; omega
  · rw [(put_yes hm).2]
    exact (versOk_parts (put_right hm)).2.2.1
/-! ### Trimmed -/
theorem rd_trim {k n : Int} (hkn : k ≤ n) {c : Int} (l : List Ver) (b : Int) (hp : l.Pairwise verLt) : readAll (readAll b l c k) (keepN k l) c n = readAll b l c n := by
  induction hl : l.length generalizing l with
  | zero => rw [List.length_eq_zero_iff] at hl; subst hl; rfl
  | succ m ih =>
    obtain ⟨r, x, rfl⟩ : ∃ r x, l = r ++ [x] := ⟨l.dropLast, l.getLast (fun e => by rw [e] at hl; cases hl), (List.dropLast_concat_getLast _).symm⟩
    have hr := ih r (List.pairwise_append.1 hp).1 (by simp at hl; exact hl)
    have hlt : ∀ y ∈ r, verLt y x := fun y hy => (List.pairwise_append.1 hp).2.2 y hy x (List.mem_singleton.2 rfl)
    have h1 : ∀ q b, readAll b (r ++ [x]) c q = if x.cell = c ∧ x.stamp ≤ q then x.val else readAll b r c q := fun q b => by rw [rd_append]; rfl
    rw [h1, h1]
    unfold keepN at hr ⊢
    rw [List.filter_append]
    by_cases e : x.stamp ≤ k
    · rw [List.filter_cons_of_neg (by simp; omega), List.filter_nil, List.append_nil]
      by_cases ec : x.cell = c
      · rw [if_pos ⟨ec, e⟩, if_pos ⟨ec, by omega⟩]
        refine rd_skip (fun y hy => ?_) _ _
        have hy2 := List.mem_filter.1 hy
        have h3 := hlt y hy2.1
        have h4 : k < y.stamp := by simpa using hy2.2
        unfold verLt at h3
        omega
      · rw [if_neg (fun q => ec q.1), if_neg (fun q => ec q.1)]
        exact hr
    · rw [List.filter_cons_of_pos (by simp; omega), List.filter_nil, if_neg (fun q => e q.2), rd_append, hr]
      rfl
theorem rd_val {l : List Ver} {b c n : Int} (hb : 0 ≤ b ∧ b ≤ 65535) (h : ∀ x ∈ l, 0 ≤ x.val ∧ x.val ≤ 65535) : 0 ≤ readAll b l c n ∧ readAll b l c n ≤ 65535 := by
  induction l generalizing b with
  | nil => exact hb
  | cons x l ih =>
    rw [rd_cons]
    refine ih ?_ fun y hy => h y (List.mem_cons_of_mem _ hy)
    split
    · exact h x (List.mem_cons_self ..)
    · exact hb
theorem state_ok {b : List Int} {f : Int} {l : List Ver} {n : Int} (h : versOk b f l = true) (hf : f ≤ n) : valsOk (versState b f l n) = true :=
  vals_mk (state_len h hf) fun c x hc hx => by
    rw [state_at h hf hc] at hx
    injection hx with hx
    subst hx
    exact rd_val (vals_at (versOk_parts h).1 hc) fun y hy => (vers_mem h hy).2.2
/-- Trimmed versions are right, not more, and read the same from there on. -/
theorem trim_right {b : List Int} {f : Int} {l : List Ver} {k : Int} (h : versOk b f l = true) (hf : f ≤ k) (hk : k ≤ 1000000) : trimOk b f l k = true ∧ versOk (trimB b f l k) (trimF b f l k) (trimL b f l k) = true ∧ trimF b f l k = k ∧ (trimL b f l k).length ≤ l.length ∧
    (∀ n, k ≤ n → versState (trimB b f l k) (trimF b f l k) (trimL b f l k) n = versState b f l n) ∧ ∀ n, n < k → versState (trimB b f l k) (trimF b f l k) (trimL b f l k) n = [] := by
  obtain ⟨t1, t2, t3, t4⟩ := trim_yes (b := b) (l := l) ⟨h, hf, hk⟩
  have h0 := (versOk_parts h).2.1
  have hp := vers_pairwise (versOk_parts h).2.2.2
  have hok : versOk (versState b f l k) k (keepN k l) = true := by
    refine dec_yes ⟨state_ok h hf, by omega, by have := keep_le k l; have := (versOk_parts h).2.2.1; omega, pairwise_all (hp.sublist List.filter_sublist) fun x hx => ?_⟩
    have hx2 := List.mem_filter.1 hx
    have h3 := vers_mem h hx2.1
    have h4 : k < x.stamp := by simpa using hx2.2
    exact ⟨h3.1, by omega, h3.2.2⟩
  rw [t2, t3, t4]
  refine ⟨t1, hok, rfl, keep_le k l, fun n hn => ?_, fun n hn => ?_⟩
  · refine list8 (state_len hok hn) (state_len h (by omega)) fun c hc => ?_
    rw [state_at hok hn hc, state_at h (by omega) hc, List.getD, state_at h hf hc]
    exact congrArg some (rd_trim hn l _ hp)
  · unfold versState
    rw [dec_no (fun q => by have := q.2; omega)]
    rfl
end Go.Proofs.Ytnhkjgnfjphllaa
