/- The order of the ranks, and what a stable merge is: plain lists. No condition. -/
import Derived.Test.YtfacckjfoajijaaMem
namespace Go.Proofs.Ytfacckjfoajijaa
open Go.RowKit
set_option linter.unusedSimpArgs false
set_option linter.unusedVariables false

/-! ### The order of the ranks: three keys, then the place -/
structure Keys where
  a : Int → Int
  b : Int → Int
  c : Int → Int
/-- x stands ahead of y by its keys. -/
def Keys.lt (K : Keys) (x y : Int) : Prop := K.a x < K.a y ∨ (K.a x = K.a y ∧ (K.b x < K.b y ∨ (K.b x = K.b y ∧ K.c x < K.c y)))
/-- x stands ahead of y. -/
def Keys.T (K : Keys) (x y : Int) : Prop := K.lt x y ∨ (¬ K.lt y x ∧ x < y)
theorem Keys.T_trans {K : Keys} {x y z : Int} (h : K.T x y) (k : K.T y z) : K.T x z := by unfold Keys.T Keys.lt at *; omega
theorem Keys.T_total {K : Keys} {x y : Int} (h : x ≠ y) : K.T x y ∨ K.T y x := by unfold Keys.T Keys.lt at *; omega
theorem Keys.T_irrefl {K : Keys} {x : Int} : ¬ K.T x x := by unfold Keys.T Keys.lt; omega
theorem Keys.T_asymm {K : Keys} {x y : Int} (h : K.T x y) : ¬ K.T y x := by unfold Keys.T Keys.lt at *; omega
theorem Keys.lt_left {K : Keys} {x y z : Int} (h : K.T x y) (k : K.lt y z) : K.lt x z := by unfold Keys.T Keys.lt at *; omega
theorem Keys.lt_right {K : Keys} {x y z : Int} (h : K.lt x y) (k : K.T y z) : K.lt x z := by unfold Keys.T Keys.lt at *; omega
theorem Keys.T_of {K : Keys} {x y : Int} (h : ¬ K.lt y x) (k : x < y) : K.T x y := .inr ⟨h, k⟩
theorem Keys.T_lt {K : Keys} {x y : Int} (h : K.lt x y) : K.T x y := .inl h

/-! ### Insertion -/
/-- The element x goes between: all that stand behind are greater, the one ahead is not. -/
theorem ins_sorted {K : Keys} {S1 S2 : List Int} {x : Int} (hs : (S1 ++ S2).Pairwise K.T) (h1 : ∀ s ∈ S1, K.T s x) (h2 : ∀ s ∈ S2, K.T x s) : (S1 ++ x :: S2).Pairwise K.T := by
  rw [List.pairwise_append] at hs ⊢
  refine ⟨hs.1, List.pairwise_cons.2 ⟨h2, hs.2.1⟩, fun a ha b hb => ?_⟩
  rcases List.mem_cons.1 hb with q | q
  · subst q; exact h1 a ha
  · exact hs.2.2 a ha b q
theorem last_all {K : Keys} {S : List Int} {y x : Int} (hs : (S ++ [y]).Pairwise K.T) (h : K.T y x) : ∀ s ∈ S ++ [y], K.T s x := by
  intro s hm
  rcases List.mem_append.1 hm with q | q
  · exact Keys.T_trans ((List.pairwise_append.1 hs).2.2 s q y (List.mem_singleton.2 rfl)) h
  · simp at q; subst q; exact h
/-! ### Places in a list that is put together -/
theorem get_mid {P X Q : List Int} {i : Nat} (h : i < X.length) : (P ++ (X ++ Q))[P.length + i]? = some X[i] := by
  rw [List.getElem?_append_right (by omega), Nat.add_sub_cancel_left, List.getElem?_append_left h, List.getElem?_eq_getElem h]
theorem pair_at {R : Int → Int → Prop} {X : List Int} (h : X.Pairwise R) {i j : Nat} {x y : Int} (hij : i < j) (hi : X[i]? = some x) (hj : X[j]? = some y) : R x y := by
  obtain ⟨i1, rfl⟩ := List.getElem?_eq_some_iff.1 hi
  obtain ⟨j1, rfl⟩ := List.getElem?_eq_some_iff.1 hj
  exact List.pairwise_iff_getElem.1 h i j i1 j1 hij
theorem mem_take_at {X : List Int} {i : Nat} {x : Int} (h : x ∈ X.take i) : ∃ j, j < i ∧ X[j]? = some x := by
  obtain ⟨j, hj⟩ := List.mem_iff_getElem?.1 h
  rw [List.getElem?_take] at hj
  split at hj
  · exact ⟨j, by omega, hj⟩
  · cases hj
theorem mem_drop_at {X : List Int} {i : Nat} {x : Int} (h : x ∈ X.drop i) : ∃ j, i ≤ j ∧ X[j]? = some x := by
  obtain ⟨j, hj⟩ := List.mem_iff_getElem?.1 h
  rw [List.getElem?_drop] at hj
  exact ⟨i + j, by omega, hj⟩
/-! ### The merge of two sorted lists, the one ahead of the other -/
/-- What a merge is asked of: both sorted, each place of the left ahead of each of the right. -/
structure Two (K : Keys) (L R : List Int) : Prop where
  l : L.Pairwise K.T
  r : R.Pairwise K.T
  lr : ∀ x ∈ L, ∀ y ∈ R, x < y
/-- What it gives. -/
structure Merged (K : Keys) (L R X : List Int) : Prop where
  perm : X.Perm (L ++ R)
  sorted : X.Pairwise K.T
/-- One element of the left goes in among the right. -/
theorem merge_left {K : Keys} {x : Int} {R : List Int} {i : Nat} (h : Two K [x] R) (h1 : ∀ (j : Nat) (y : Int), j < i → R[j]? = some y → K.lt y x) (h2 : ∀ (j : Nat) (y : Int), i ≤ j → R[j]? = some y → ¬ K.lt y x) : Merged K [x] R (R.take i ++ x :: R.drop i) := by
  refine ⟨?_, ins_sorted (by rw [List.take_append_drop]; exact h.r) (fun s hs => ?_) fun s hs => ?_⟩
  · refine List.perm_middle.trans ?_
    rw [List.take_append_drop]
    exact List.Perm.refl _
  · obtain ⟨j, hj, e⟩ := mem_take_at hs
    exact Keys.T_lt (h1 j s hj e)
  · obtain ⟨j, hj, e⟩ := mem_drop_at hs
    exact Keys.T_of (h2 j s hj e) (h.lr x (List.mem_singleton.2 rfl) s (List.mem_of_getElem? e))
/-- One element of the right goes in among the left. -/
theorem merge_right {K : Keys} {x : Int} {L : List Int} {i : Nat} (h : Two K L [x]) (h1 : ∀ (j : Nat) (y : Int), j < i → L[j]? = some y → ¬ K.lt x y) (h2 : ∀ (j : Nat) (y : Int), i ≤ j → L[j]? = some y → K.lt x y) : Merged K L [x] (L.take i ++ x :: L.drop i) := by
  refine ⟨?_, ins_sorted (by rw [List.take_append_drop]; exact h.l) (fun s hs => ?_) fun s hs => ?_⟩
  · refine List.perm_middle.trans ?_
    rw [List.take_append_drop]
    exact List.perm_append_comm (l₁ := [x])
  · obtain ⟨j, hj, e⟩ := mem_take_at hs
    exact Keys.T_of (h1 j s hj e) (h.lr s (List.mem_of_getElem? e) x (List.mem_singleton.2 rfl))
  · obtain ⟨j, hj, e⟩ := mem_drop_at hs
    exact Keys.T_lt (h2 j s hj e)
/-- Halves: what is taken of the left and of the right stands ahead of the rest. -/
theorem merge_halves {K : Keys} {L R X Y : List Int} {p q : Nat} (h : Two K L R) (hp : p ≤ L.length) (hq : q ≤ R.length)
    (h1 : ∀ (x y : Int), 0 < p → L[p - 1]? = some x → R[q]? = some y → ¬ K.lt y x)
    (h2 : ∀ (x y : Int), 0 < q → L[p]? = some x → R[q - 1]? = some y → K.lt y x)
    (hX : Merged K (L.take p) (R.take q) X) (hY : Merged K (L.drop p) (R.drop q) Y) : Merged K L R (X ++ Y) := by
  have key : ∀ x ∈ L.take p ++ R.take q, ∀ y ∈ L.drop p ++ R.drop q, K.T x y := by
    intro x hx y hy
    rcases List.mem_append.1 hx with hx | hx <;> rcases List.mem_append.1 hy with hy | hy
    · obtain ⟨i, hi, ei⟩ := mem_take_at hx
      obtain ⟨j, hj, ej⟩ := mem_drop_at hy
      exact pair_at h.l (by omega) ei ej
    · -- left ahead, right behind
      obtain ⟨i, hi, ei⟩ := mem_take_at hx
      obtain ⟨j, hj, ej⟩ := mem_drop_at hy
      have hp0 : 0 < p := by omega
      obtain ⟨z, ez⟩ : ∃ z, L[p - 1]? = some z := ⟨_, List.getElem?_eq_getElem (by omega)⟩
      have hql : q < R.length := by have := (List.getElem?_eq_some_iff.1 ej).1; omega
      obtain ⟨u, eu⟩ : ∃ u, R[q]? = some u := ⟨_, List.getElem?_eq_getElem hql⟩
      have hz := Keys.T_of (h1 z u hp0 ez eu) (h.lr z (List.mem_of_getElem? ez) u (List.mem_of_getElem? eu))
      have a : x = z ∨ K.T x z := by
        by_cases e : i = p - 1
        · subst e; rw [ez] at ei; injection ei with ei; exact .inl ei.symm
        · exact .inr (pair_at h.l (by omega) ei ez)
      have b : u = y ∨ K.T u y := by
        by_cases e : j = q
        · subst e; rw [eu] at ej; injection ej with ej; exact .inl ej
        · exact .inr (pair_at h.r (by omega) eu ej)
      rcases a with rfl | a <;> rcases b with rfl | b
      · exact hz
      · exact Keys.T_trans hz b
      · exact Keys.T_trans a hz
      · exact Keys.T_trans a (Keys.T_trans hz b)
    · -- right ahead, left behind
      obtain ⟨i, hi, ei⟩ := mem_take_at hx
      obtain ⟨j, hj, ej⟩ := mem_drop_at hy
      have hq0 : 0 < q := by omega
      obtain ⟨z, ez⟩ : ∃ z, R[q - 1]? = some z := ⟨_, List.getElem?_eq_getElem (by omega)⟩
      have hpl : p < L.length := by have := (List.getElem?_eq_some_iff.1 ej).1; omega
      obtain ⟨u, eu⟩ : ∃ u, L[p]? = some u := ⟨_, List.getElem?_eq_getElem hpl⟩
      have hz := Keys.T_lt (h2 u z hq0 eu ez)
      have a : x = z ∨ K.T x z := by
        by_cases e : i = q - 1
        · subst e; rw [ez] at ei; injection ei with ei; exact .inl ei.symm
        · exact .inr (pair_at h.r (by omega) ei ez)
      have b : u = y ∨ K.T u y := by
        by_cases e : j = p
        · subst e; rw [eu] at ej; injection ej with ej; exact .inl ej
        · exact .inr (pair_at h.l (by omega) eu ej)
      rcases a with rfl | a <;> rcases b with rfl | b
      · exact hz
      · exact Keys.T_trans hz b
      · exact Keys.T_trans a hz
      · exact Keys.T_trans a (Keys.T_trans hz b)
    · obtain ⟨i, hi, ei⟩ := mem_take_at hx
      obtain ⟨j, hj, ej⟩ := mem_drop_at hy
      exact pair_at h.r (by omega) ei ej
  refine ⟨?_, List.pairwise_append.2 ⟨hX.sorted, hY.sorted, fun x hx y hy => key x (hX.perm.subset hx) y (hY.perm.subset hy)⟩⟩
  refine (hX.perm.append hY.perm).trans ?_
  have e1 : L ++ R = (L.take p ++ L.drop p) ++ (R.take q ++ R.drop q) := by rw [List.take_append_drop, List.take_append_drop]
  rw [e1, List.append_assoc, List.append_assoc]
  refine List.Perm.append_left _ ?_
  rw [← List.append_assoc, ← List.append_assoc]
  exact List.Perm.append_right _ List.perm_append_comm
theorem Two.take {K : Keys} {L R : List Int} (h : Two K L R) (p q : Nat) : Two K (L.take p) (R.take q) :=
  ⟨h.l.sublist (List.take_sublist _ _), h.r.sublist (List.take_sublist _ _), fun x hx y hy => h.lr x (List.mem_of_mem_take hx) y (List.mem_of_mem_take hy)⟩
theorem Two.drop {K : Keys} {L R : List Int} (h : Two K L R) (p q : Nat) : Two K (L.drop p) (R.drop q) :=
  ⟨h.l.sublist (List.drop_sublist _ _), h.r.sublist (List.drop_sublist _ _), fun x hx y hy => h.lr x (List.mem_of_mem_drop hx) y (List.mem_of_mem_drop hy)⟩
theorem merged_nil_left {K : Keys} {L R : List Int} (h : Two K L R) (hl : L = []) : Merged K L R R := by subst hl; exact ⟨List.Perm.refl _, h.r⟩
theorem merged_nil_right {K : Keys} {L R : List Int} (h : Two K L R) (hr : R = []) : Merged K L R L := by subst hr; exact ⟨by simp, h.l⟩
/-! ### The search: start is between where all is taken and where none is -/
/-- At place c of the left, the right's place that answers to it is p - c; both count from the list's beginning. -/
theorem search_lo {K : Keys} {L R : List Int} (h : Two K L R) {c d i j : Nat} {x y x' y' : Int} (hx : L[c]? = some x) (hy : R[i]? = some y) (hn : ¬ K.lt y x) (hx' : L[d]? = some x') (hy' : R[j]? = some y') (hd : d ≤ c) (hj : i ≤ j) : ¬ K.lt y' x' := by
  intro q
  apply hn
  have a : x' = x ∨ K.T x' x := by
    by_cases e : d = c
    · subst e; rw [hx] at hx'; injection hx' with e; exact .inl e.symm
    · exact .inr (pair_at h.l (by omega) hx' hx)
  have b : y = y' ∨ K.T y y' := by
    by_cases e : i = j
    · subst e; rw [hy] at hy'; injection hy' with e; exact .inl e
    · exact .inr (pair_at h.r (by omega) hy hy')
  rcases a with rfl | a <;> rcases b with rfl | b
  · exact q
  · exact Keys.lt_left b q
  · exact Keys.lt_right q a
  · exact Keys.lt_left b (Keys.lt_right q a)
/-! ### The ranks -/
theorem T_nodup {K : Keys} {l : List Int} (h : l.Pairwise K.T) : l.Nodup := h.imp fun {a b} q e => by subst e; exact Keys.T_irrefl q
theorem sorted_unique' {K : Keys} {l r : List Int} (hp : l.Perm r) (hl : l.Pairwise K.T) (hr : r.Pairwise K.T) : l = r :=
  List.Perm.eq_of_pairwise (le := K.T) (fun a b _ _ h1 h2 => absurd h2 (Keys.T_asymm h1)) hl hr hp
/-- How many of the list stand ahead of x. -/
noncomputable def ahead (K : Keys) (l : List Int) (x : Int) : Nat := (l.filter fun y => @decide (K.T y x) (Classical.propDecidable _)).length
theorem ahead_perm {K : Keys} {l r : List Int} (h : l.Perm r) (x : Int) : ahead K l x = ahead K r x := (h.filter _).length_eq
theorem ahead_at {K : Keys} {l : List Int} (h : l.Pairwise K.T) {i : Nat} {x : Int} (hx : l[i]? = some x) : ahead K l x = i := by
  obtain ⟨hi, e⟩ := List.getElem?_eq_some_iff.1 hx
  have h1 : l = l.take i ++ x :: l.drop (i + 1) := by rw [← e, List.getElem_cons_drop, List.take_append_drop]
  have hf1 : (l.take i).filter (fun y => @decide (K.T y x) (Classical.propDecidable _)) = l.take i := by
    rw [List.filter_eq_self]
    intro y hy
    obtain ⟨j, hj, ej⟩ := mem_take_at hy
    simpa using pair_at h hj ej hx
  have hf2 : (x :: l.drop (i + 1)).filter (fun y => @decide (K.T y x) (Classical.propDecidable _)) = [] := by
    rw [List.filter_eq_nil_iff]
    intro y hy
    rcases List.mem_cons.1 hy with q | q
    · subst q; simpa using Keys.T_irrefl
    · obtain ⟨j, hj, ej⟩ := mem_drop_at q
      simpa using Keys.T_asymm (pair_at h (by omega) hx ej)
  unfold ahead
  rw [h1, List.filter_append, hf1, hf2, List.append_nil, List.length_take]
  omega
noncomputable def rankList (K : Keys) (l : List Int) : List Int := l.mergeSort fun a b => !@decide (K.T b a) (Classical.propDecidable _)
theorem rank_perm (K : Keys) (l : List Int) : (rankList K l).Perm l := List.mergeSort_perm _ _
theorem rank_sorted {K : Keys} {l : List Int} (h : l.Nodup) : (rankList K l).Pairwise K.T := by
  have h1 : (rankList K l).Pairwise (fun a b => (!@decide (K.T b a) (Classical.propDecidable _)) = true) := List.pairwise_mergeSort (fun a b c h1 h2 => by
    simp at *
    intro q
    by_cases e1 : a = b
    · subst e1; exact h2 q
    · by_cases e2 : b = c
      · subst e2; exact h1 q
      · have t1 := (Keys.T_total (K := K) e1).resolve_right h1
        have t2 := (Keys.T_total (K := K) e2).resolve_right h2
        exact Keys.T_asymm (Keys.T_trans t1 t2) q) (fun a b => by
    simp
    by_cases e1 : a = b
    · subst e1; exact .inl Keys.T_irrefl
    · rcases Keys.T_total (K := K) e1 with q | q
      · exact .inl (Keys.T_asymm q)
      · exact .inr (Keys.T_asymm q)) _
  have h2 : (rankList K l).Nodup := (rank_perm K l).symm.nodup h
  rw [List.pairwise_iff_getElem] at h1 ⊢
  intro i j hi hj hij
  have a := h1 i j hi hj hij
  have b := List.pairwise_iff_getElem.1 h2 i j hi hj hij
  simp at a
  exact (Keys.T_total b).resolve_right a
theorem rank_of {K : Keys} {l r : List Int} (hn : l.Nodup) (hp : r.Perm l) (hs : r.Pairwise K.T) : r = rankList K l :=
  sorted_unique' (hp.trans (rank_perm K l).symm) hs (rank_sorted hn)
theorem rank_at {K : Keys} {l : List Int} (hn : l.Nodup) {x : Int} (hx : x ∈ l) : (rankList K l)[ahead K l x]? = some x := by
  obtain ⟨i, hi⟩ := List.mem_iff_getElem?.1 ((rank_perm K l).symm.subset hx)
  rw [ahead_perm (rank_perm K l).symm x, ahead_at (rank_sorted hn) hi]
  exact hi
end Go.Proofs.Ytfacckjfoajijaa
