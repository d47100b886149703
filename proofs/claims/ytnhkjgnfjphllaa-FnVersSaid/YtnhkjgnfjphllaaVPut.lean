/- What VersPut gives, as a plain law: the merge by cells is the sorted list. No condition. -/
import Derived.Test.YtnhkjgnfjphllaaVersLast
import Derived.Test.YtnhkjgnfjphllaaVNet
namespace Go.Proofs.Ytnhkjgnfjphllaa
open Go.RowKit Go.Deep
set_option linter.unusedSimpArgs false
set_option linter.unusedVariables false

def verOf (st : Int) (r : Row) : Ver := ⟨r.cell, st, r.val⟩
noncomputable def putOk (b : List Int) (f : Int) (l : List Ver) (st : Int) (ps : List Row) : Bool := dec (versOk b f l = true ∧ (versLast b f l + 1 ≤ st ∧ st ≤ 1000000) ∧ rowsOk ps = true ∧ l.length + (netR ps).length ≤ 60)
noncomputable def newOf (st : Int) (ps : List Row) (c : Nat) : List Ver := match lastV ps (c : Int) with | some v => [⟨(c : Int), st, v⟩] | none => []
noncomputable def mergeTo (l : List Ver) (st : Int) (ps : List Row) : Nat → List Ver
  | 0 => []
  | k + 1 => mergeTo l st ps k ++ (l.filter (fun x => decide (x.cell = (k : Int))) ++ newOf st ps k)
noncomputable def putL (b : List Int) (f : Int) (l : List Ver) (st : Int) (ps : List Row) : List Ver := if putOk b f l st ps = true then mergeTo l st ps 8 else l
theorem put_no {b : List Int} {f : Int} {l : List Ver} {st : Int} {ps : List Row} (h : ¬ (versOk b f l = true ∧ (versLast b f l + 1 ≤ st ∧ st ≤ 1000000) ∧ rowsOk ps = true ∧ l.length + (netR ps).length ≤ 60)) : putOk b f l st ps = false ∧ putL b f l st ps = l := by
  have e : putOk b f l st ps = false := dec_no h
  refine ⟨e, ?_⟩
  unfold putL; rw [e]; rfl
theorem put_yes {b : List Int} {f : Int} {l : List Ver} {st : Int} {ps : List Row} (h : versOk b f l = true ∧ (versLast b f l + 1 ≤ st ∧ st ≤ 1000000) ∧ rowsOk ps = true ∧ l.length + (netR ps).length ≤ 60) : putOk b f l st ps = true ∧ putL b f l st ps = mergeTo l st ps 8 := by
  have e : putOk b f l st ps = true := dec_yes h
  refine ⟨e, ?_⟩
  unfold putL; rw [e]; rfl
theorem verLt_trans {x y z : Ver} (h : verLt x y) (k : verLt y z) : verLt x z := by unfold verLt at *; omega
theorem vers_pairwise {f : Int} {l : List Ver} (h : AllTo (verAt f l) l l.length) : l.Pairwise verLt := by
  rw [List.pairwise_iff_getElem]
  have step : ∀ i (hi : i + 1 < l.length), verLt (l[i]'(by omega)) (l[i + 1]'hi) := fun i hi =>
    (h (i + 1) hi _ (List.getElem?_eq_getElem hi)).2.2.2 _ (Nat.succ_pos _) (by rw [Nat.add_sub_cancel]; exact List.getElem?_eq_getElem (by omega))
  have go : ∀ d i (hi : i + d + 1 < l.length), verLt (l[i]'(by omega)) (l[i + d + 1]'hi) := by
    intro d
    induction d with
    | zero => intro i hi; exact step i hi
    | succ d ih => intro i hi; exact verLt_trans (ih i (by omega)) (step (i + d + 1) (by omega))
  intro i j hi hj hij
  have := go (j - i - 1) i (by omega)
  have e : i + (j - i - 1) + 1 = j := by omega
  simp only [e] at this
  exact this
theorem lastTo_ge (f : Int) (l : List Ver) : ∀ k, f ≤ lastTo f l k ∧ ∀ i, i < k → ∀ x, l[i]? = some x → x.stamp ≤ lastTo f l k
  | 0 => ⟨by simp [lastTo], fun _ h => absurd h (Nat.not_lt_zero _)⟩
  | k + 1 => by
    have ih := lastTo_ge f l k
    cases hx : l[k]? with
    | none =>
      have e : lastTo f l (k + 1) = lastTo f l k := by unfold lastTo; rw [List.take_add_one, hx]; simp
      rw [e]
      refine ⟨ih.1, fun i hi x hxi => ?_⟩
      by_cases c : i = k
      · subst c; rw [hx] at hxi; cases hxi
      · exact ih.2 i (by omega) x hxi
    | some y =>
      rw [lastTo_succ hx]
      refine ⟨by have := ih.1; omega, fun i hi x hxi => ?_⟩
      by_cases c : i = k
      · subst c; rw [hx] at hxi; injection hxi with hxi; subst hxi; omega
      · have := ih.2 i (by omega) x hxi; omega
theorem stamp_last {b : List Int} {f : Int} {l : List Ver} (h : versOk b f l = true) {x : Ver} (hx : x ∈ l) : x.stamp ≤ versLast b f l := by
  obtain ⟨i, hi⟩ := List.mem_iff_getElem?.1 hx
  unfold versLast
  rw [if_pos h]
  exact (lastTo_ge f l l.length).2 i (List.getElem?_eq_some_iff.1 hi).1 x hi
theorem last_from {b : List Int} {f : Int} {l : List Ver} (h : versOk b f l = true) : f ≤ versLast b f l := by
  unfold versLast
  rw [if_pos h]
  exact (lastTo_ge f l l.length).1
theorem filter_two {α : Type} (p q r : α → Bool) (hr : ∀ x, r x = (p x || q x)) (hd : ∀ x, p x = true → q x = false) : ∀ l : List α, (l.filter r).Perm (l.filter p ++ l.filter q)
  | [] => List.Perm.refl _
  | a :: l => by
    have ih := filter_two p q r hr hd l
    have h1 := hr a
    have h2 := hd a
    cases hp : p a
    · cases hq : q a
      · rw [hp, hq] at h1
        simp only [List.filter_cons, h1, hp, hq]
        exact ih
      · rw [hp, hq] at h1
        simp only [List.filter_cons, h1, hp, hq, if_true, Bool.false_or, Bool.or_self, Bool.false_eq_true, if_false]
        exact (ih.cons a).trans List.perm_middle.symm
    · have hq := h2 hp
      rw [hp, hq] at h1
      simp only [List.filter_cons, h1, hp, hq, if_true, Bool.true_or, Bool.false_eq_true, if_false]
      exact ih.cons a
theorem newOf_net (st : Int) (ps : List Row) (k : Nat) : (netTo ps (k + 1)).map (verOf st) = (netTo ps k).map (verOf st) ++ newOf st ps k := by
  unfold newOf
  cases h : lastV ps (k : Int) with
  | none => rw [netTo_none h]; simp
  | some v => rw [netTo_some h]; simp [verOf]
theorem merge_perm (l : List Ver) (st : Int) (ps : List Row) (h0 : ∀ x ∈ l, 0 ≤ x.cell) : ∀ k, (mergeTo l st ps k).Perm (l.filter (fun x => decide (x.cell < (k : Int))) ++ (netTo ps k).map (verOf st))
  | 0 => by
    have e : l.filter (fun x => decide (x.cell < ((0 : Nat) : Int))) = [] := by
      rw [List.filter_eq_nil_iff]
      intro x hx
      have := h0 x hx
      simp; omega
    rw [e]; exact List.Perm.refl _
  | k + 1 => by
    have ih := merge_perm l st ps h0 k
    rw [newOf_net]
    have hf := filter_two (fun x : Ver => decide (x.cell < (k : Int))) (fun x => decide (x.cell = (k : Int))) (fun x => decide (x.cell < ((k + 1 : Nat) : Int))) (fun x => by
      rw [Bool.eq_iff_iff]; simp; omega) (fun x hx => by simp at *; omega) l
    unfold mergeTo
    refine (ih.append_right _).trans ?_
    refine List.Perm.trans ?_ (hf.append_right _).symm
    rw [List.append_assoc, List.append_assoc]
    refine List.Perm.append_left _ ?_
    rw [← List.append_assoc, ← List.append_assoc]
    exact List.Perm.append_right _ List.perm_append_comm
theorem merge_cell {l : List Ver} {st : Int} {ps : List Row} : ∀ {k : Nat} {x : Ver}, x ∈ mergeTo l st ps k → x.cell < (k : Int)
  | 0, x, h => by simp [mergeTo] at h
  | k + 1, x, h => by
    unfold mergeTo at h
    rcases List.mem_append.1 h with h | h
    · have := merge_cell h; omega
    · rcases List.mem_append.1 h with h | h
      · have := (List.mem_filter.1 h).2; simp at this; omega
      · unfold newOf at h
        split at h
        · simp at h; subst h; simp; omega
        · simp at h
theorem merge_sorted {l : List Ver} {st : Int} {ps : List Row} (hl : l.Pairwise verLt) (hst : ∀ x ∈ l, x.stamp < st) : ∀ k, (mergeTo l st ps k).Pairwise verLt
  | 0 => List.Pairwise.nil
  | k + 1 => by
    unfold mergeTo
    rw [List.pairwise_append]
    refine ⟨merge_sorted hl hst k, ?_, fun x hx y hy => ?_⟩
    · rw [List.pairwise_append]
      refine ⟨hl.sublist List.filter_sublist, ?_, fun x hx y hy => ?_⟩
      · unfold newOf; split <;> simp
      · have h1 := List.mem_filter.1 hx
        have h2 := hst x h1.1
        have h3 : x.cell = (k : Int) := by simpa using h1.2
        unfold newOf at hy
        split at hy
        · simp at hy; subst hy; exact .inr ⟨h3, h2⟩
        · simp at hy
    · have h1 := merge_cell hx
      have h2 : y.cell = (k : Int) := by
        rcases List.mem_append.1 hy with h | h
        · simpa using (List.mem_filter.1 h).2
        · unfold newOf at h
          split at h
          · simp at h; subst h; rfl
          · simp at h
      exact .inl (by omega)
theorem sorted_unique {l l' : List Ver} (hl : l.Pairwise verLt) (hp : l'.Perm l) (hs : l'.Pairwise (fun x y => ¬ verLt y x)) : l' = l := by
  refine List.Perm.eq_of_pairwise (le := fun x y => ¬ verLt y x) (fun a b ha hb h1 h2 => ?_) hs (hl.imp fun {x y} h k => by unfold verLt at *; omega) hp
  obtain ⟨i, hi, rfl⟩ := List.mem_iff_getElem.1 (hp.subset ha)
  obtain ⟨j, hj, rfl⟩ := List.mem_iff_getElem.1 hb
  have h := List.pairwise_iff_getElem.1 hl
  rcases Nat.lt_trichotomy i j with c | c | c
  · exact absurd (h i j hi hj c) h2
  · subst c; rfl
  · exact absurd (h j i hj hi c) h1
theorem versOk_parts {b : List Int} {f : Int} {l : List Ver} (h : versOk b f l = true) : valsOk b = true ∧ (0 ≤ f ∧ f ≤ 1000000) ∧ l.length ≤ 60 ∧ AllTo (verAt f l) l l.length := dec_true h
theorem vers_mem {b : List Int} {f : Int} {l : List Ver} (h : versOk b f l = true) {x : Ver} (hx : x ∈ l) : (0 ≤ x.cell ∧ x.cell ≤ 7) ∧ (f + 1 ≤ x.stamp ∧ x.stamp ≤ 1000000) ∧ (0 ≤ x.val ∧ x.val ≤ 65535) := by
  obtain ⟨i, hi⟩ := List.mem_iff_getElem?.1 hx
  have := (versOk_parts h).2.2.2 i (List.getElem?_eq_some_iff.1 hi).1 x hi
  exact ⟨this.1, this.2.1, this.2.2.1⟩
/-- The sorted list is the merge. -/
theorem put_sorted {b : List Int} {f : Int} {l l' : List Ver} {st : Int} {ps : List Row} (h : versOk b f l = true) (hst : versLast b f l + 1 ≤ st) (hp : l'.Perm (l ++ (netR ps).map (verOf st))) (hs : l'.Pairwise (fun x y => ¬ verLt y x)) : l' = mergeTo l st ps 8 := by
  have h0 : ∀ x ∈ l, 0 ≤ x.cell := fun x hx => (vers_mem h hx).1.1
  have h8 : l.filter (fun x => decide (x.cell < ((8 : Nat) : Int))) = l := by
    rw [List.filter_eq_self]
    intro x hx
    have := (vers_mem h hx).1.2
    simp; omega
  have hm := merge_perm l st ps h0 8
  rw [h8] at hm
  exact sorted_unique (merge_sorted (vers_pairwise (versOk_parts h).2.2.2) (fun x hx => by have := stamp_last h hx; omega) 8) (hp.trans hm.symm) hs
theorem net_mem (ps : List Row) : ∀ k, k ≤ 8 → ∀ r ∈ netTo ps k, 0 ≤ r.cell ∧ r.cell ≤ 7
  | 0, _, r, h => by simp [netTo] at h
  | k + 1, hk, r, h => by
    cases hv : lastV ps (k : Int) with
    | none => rw [netTo_none hv] at h; exact net_mem ps k (by omega) r h
    | some v =>
      rw [netTo_some hv] at h
      rcases List.mem_append.1 h with h | h
      · exact net_mem ps k (by omega) r h
      · simp at h; subst h; simp; omega
end Go.Proofs.Ytnhkjgnfjphllaa
