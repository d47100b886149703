/- Places in a row that is sorted in parts. No condition. -/
import Derived.Test.YtfacckjfoajijaaStabP
namespace Go.Proofs.Ytfacckjfoajijaa
open Go.RowKit
set_option linter.unusedSimpArgs false
set_option linter.unusedVariables false

/-- Two parts of equal length, the first q of each swapped. -/
def Swp (D : List Int) (a b q : Nat) (D' : List Int) : Prop := D'.length = D.length ∧ ∀ j, D'[j]? = if a ≤ j ∧ j < a + q then D[b + (j - a)]? else if b ≤ j ∧ j < b + q then D[a + (j - b)]? else D[j]?
theorem Swp.zero (D : List Int) (a b : Nat) : Swp D a b 0 D := ⟨rfl, fun j => by rw [if_neg (by omega), if_neg (by omega)]⟩
theorem Swp.next {D D' : List Int} {a b q : Nat} {u v : Int} (h : Swp D a b q D') (hab : a + q < b) (hb : b + q < D.length) (hu : D[a + q]? = some u) (hv : D[b + q]? = some v) : Swp D a b (q + 1) ((D'.set (a + q) v).set (b + q) u) := by
  refine ⟨by simp [h.1], fun j => ?_⟩
  rw [List.getElem?_set, List.getElem?_set]
  by_cases e1 : b + q = j
  · subst e1
    rw [if_pos rfl, if_pos (by simp [h.1]; omega), if_neg (by omega), if_pos (by omega), ← hu]
    congr 1
    omega
  · rw [if_neg e1]
    by_cases e2 : a + q = j
    · subst e2
      rw [if_pos rfl, if_pos (by rw [h.1]; omega), if_pos (by omega), ← hv]
      congr 1
      omega
    · rw [if_neg e2, h.2]
      by_cases c1 : a ≤ j ∧ j < a + q
      · rw [if_pos c1, if_pos (by omega)]
      · rw [if_neg c1]
        by_cases c2 : b ≤ j ∧ j < b + q
        · rw [if_pos c2, if_neg (show ¬ (a ≤ j ∧ j < a + (q + 1)) by omega), if_pos (by omega)]
        · rw [if_neg c2, if_neg (show ¬ (a ≤ j ∧ j < a + (q + 1)) by omega), if_neg (by omega)]
theorem Swp.get_a {D D' : List Int} {a b q k : Nat} (h : Swp D a b k D') (hk : k < q) (hab : a + q ≤ b) : D'[a + k]? = D[a + k]? := by rw [h.2, if_neg (by omega), if_neg (by omega)]
theorem Swp.get_b {D D' : List Int} {a b q k : Nat} (h : Swp D a b k D') (hk : k < q) (hab : a + q ≤ b) : D'[b + k]? = D[b + k]? := by rw [h.2, if_neg (by omega), if_neg (by omega)]
theorem Swp.parts {P X M Y Q D' : List Int} (h : Swp (P ++ (X ++ (M ++ (Y ++ Q)))) P.length (P.length + X.length + M.length) X.length D') (hy : Y.length = X.length) : D' = P ++ (Y ++ (M ++ (X ++ Q))) := by
  apply List.ext_getElem?
  intro j
  rw [h.2]
  simp only [List.getElem?_append, List.length_append]
  by_cases c0 : j < P.length
  · rw [if_neg (by omega), if_neg (by omega), if_pos c0, if_pos c0]
  by_cases c1 : j < P.length + X.length
  · rw [if_pos (by omega), if_neg (by omega), if_neg (by omega), if_neg (by omega), if_pos (by omega), if_neg c0, if_pos (by omega)]
    congr 1
    omega
  by_cases c2 : j < P.length + X.length + M.length
  · rw [if_neg (by omega), if_neg (by omega), if_neg c0, if_neg (by omega), if_pos (by omega), if_neg c0, if_neg (by omega), if_pos (by omega)]
    congr 1
    omega
  by_cases c3 : j < P.length + X.length + M.length + Y.length
  · rw [if_neg (by omega), if_pos (by omega), if_neg (by omega), if_pos (by omega), if_neg c0, if_neg (by omega), if_neg (by omega), if_pos (by omega)]
    congr 1
    omega
  · rw [if_neg (by omega), if_neg (by omega), if_neg c0, if_neg (by omega), if_neg (by omega), if_neg (by omega), if_neg c0, if_neg (by omega), if_neg (by omega), if_neg (by omega)]
    congr 1
    omega
/-- One element and the one ahead of it swapped. -/
theorem swap_parts {P Q : List Int} {x y : Int} {j : Nat} (hj : j = P.length) : ((P ++ (x :: y :: Q)).set (j + 1) x).set j y = P ++ (y :: x :: Q) := by
  subst hj
  rw [List.set_append_right _ _ (by omega), Nat.add_sub_cancel_left, List.set_append_right _ _ (Nat.le_refl _), Nat.sub_self]
  rfl
theorem swap_parts' {P Q : List Int} {x y : Int} {j : Nat} (hj : j = P.length) : ((P ++ (x :: y :: Q)).set j y).set (j + 1) x = P ++ (y :: x :: Q) := by
  subst hj
  rw [List.set_append_right _ _ (Nat.le_refl _), Nat.sub_self, List.set_append_right _ _ (by omega), Nat.add_sub_cancel_left]
  rfl
theorem at_mid {P Q : List Int} {x : Int} {j : Nat} (hj : j = P.length) : (P ++ x :: Q)[j]? = some x := by subst hj; simp
theorem at_mid1 {P Q : List Int} {x y : Int} {j : Nat} (hj : j = P.length) : (P ++ x :: y :: Q)[j + 1]? = some y := by subst hj; simp
theorem at_part {P X Q : List Int} {j i : Nat} {x : Int} (hj : j = P.length + i) (hx : X[i]? = some x) : (P ++ (X ++ Q))[j]? = some x := by
  subst hj
  have hi := (List.getElem?_eq_some_iff.1 hx).1
  rw [List.getElem?_append_right (by omega), Nat.add_sub_cancel_left, List.getElem?_append_left hi]
  exact hx
/-! ### Runs -/
/-- The part from p on of s elements, or of those that are left. -/
def Seg (D : List Int) (p s : Nat) : List Int := (D.drop p).take s
theorem seg_len (D : List Int) (p s : Nat) : (Seg D p s).length = min s (D.length - p) := by unfold Seg; rw [List.length_take, List.length_drop]
def RunAt (K : Keys) (E : List Int) (s p : Nat) (D : List Int) : Prop := (Seg D p s).Pairwise K.T ∧ (Seg D p s).Perm (Seg E p s)
theorem seg_cut (D : List Int) (p s t : Nat) : Seg D p (s + t) = Seg D p s ++ Seg D (p + s) t := by
  unfold Seg
  rw [← List.drop_drop, List.take_add]
theorem list_cut (D : List Int) (a s t : Nat) : D = D.take a ++ (Seg D a s ++ (Seg D (a + s) t ++ D.drop (a + s + t))) := by
  unfold Seg
  have h1 : D.drop (a + s + t) = (D.drop (a + s)).drop t := by rw [List.drop_drop]
  have h2 : D.drop (a + s) = (D.drop a).drop s := by rw [List.drop_drop]
  rw [h1, List.take_append_drop, h2, List.take_append_drop, List.take_append_drop]
theorem seg_put_lo {P X Q D : List Int} {p s : Nat} (hD : D.take P.length = P) (h : p + s ≤ P.length) : Seg (P ++ X) p s = Seg D p s := by
  have hP : P.length ≤ D.length := by have := congrArg List.length hD; rw [List.length_take] at this; omega
  apply List.ext_getElem?
  intro i
  unfold Seg
  rw [List.getElem?_take, List.getElem?_take]
  split
  · rw [List.getElem?_drop, List.getElem?_drop, List.getElem?_append_left (by omega)]
    conv => lhs; rw [← hD]
    rw [List.getElem?_take_of_lt (by omega)]
  · rfl
theorem seg_put_hi {P X Q D : List Int} {p s b : Nat} (hQ : Q = D.drop b) (hb : (P ++ X).length = b) (h : b ≤ p) : Seg (P ++ (X ++ Q)) p s = Seg D p s := by
  unfold Seg
  congr 1
  rw [← List.append_assoc]
  apply List.ext_getElem?
  intro i
  rw [List.getElem?_drop, List.getElem?_drop, List.getElem?_append_right (by omega), hQ, List.getElem?_drop]
  congr 1
  omega
/-- Ahead of a the runs are twice as long. -/
structure Half (K : Keys) (E : List Int) (s a : Nat) (D : List Int) : Prop where
  len : D.length = E.length
  lo : ∀ p, p < a → 2 * s ∣ p → RunAt K E (2 * s) p D
  hi : ∀ p, a ≤ p → s ∣ p → RunAt K E s p D
theorem Half.start {K : Keys} {E D : List Int} {s : Nat} (h0 : D.length = E.length) (h : ∀ p, s ∣ p → RunAt K E s p D) : Half K E s 0 D := ⟨h0, fun p hp => absurd hp (Nat.not_lt_zero _), fun p _ hp => h p hp⟩
theorem run_out {K : Keys} {E D : List Int} {s p : Nat} (hl : D.length = E.length) (hp : E.length ≤ p) : RunAt K E s p D := by
  have h1 : Seg D p s = [] := by unfold Seg; rw [List.drop_of_length_le (by omega)]; simp
  have h2 : Seg E p s = [] := by unfold Seg; rw [List.drop_of_length_le (by omega)]; simp
  unfold RunAt
  rw [h1, h2]
  exact ⟨List.Pairwise.nil, List.Perm.refl _⟩
theorem seg_lt {E : List Int} (hE : E.Pairwise (· < ·)) {p s t : Nat} {x y : Int} (hx : x ∈ Seg E p s) (hy : y ∈ Seg E (p + s) t) : x < y := by
  unfold Seg at hx hy
  obtain ⟨i, hi, ei⟩ := mem_take_at hx
  obtain ⟨j, hj, ej⟩ := mem_take_at hy
  rw [List.getElem?_drop] at ei ej
  exact pair_at hE (by omega) ei ej
/-- The two runs behind a may be merged. -/
theorem Half.two {K : Keys} {E D : List Int} {s a : Nat} (hE : E.Pairwise (· < ·)) (h : Half K E s a D) (ha : 2 * s ∣ a) : Two K (Seg D a s) (Seg D (a + s) s) := by
  have hsa : s ∣ a := Nat.dvd_trans (Nat.dvd_mul_left s 2) ha
  have h1 := h.hi a (Nat.le_refl _) hsa
  have h2 := h.hi (a + s) (by omega) (Nat.dvd_add hsa (Nat.dvd_refl s))
  exact ⟨h1.1, h2.1, fun x hx y hy => seg_lt hE (h1.2.subset hx) (h2.2.subset hy)⟩
/-- They are merged. -/
theorem Half.merge {K : Keys} {E D X : List Int} {s a : Nat} (h : Half K E s a D) (ha : 2 * s ∣ a) (hs : 0 < s) (hal : a ≤ D.length) (hX : Merged K (Seg D a s) (Seg D (a + s) s) X) : Half K E s (a + 2 * s) (D.take a ++ (X ++ D.drop (a + s + s))) := by
  have hXl : X.length = min (2 * s) (D.length - a) := by
    rw [hX.perm.length_eq, List.length_append, seg_len, seg_len]; omega
  have hla : (D.take a).length = a := by rw [List.length_take]; omega
  have hsa : s ∣ a := Nat.dvd_trans (Nat.dvd_mul_left s 2) ha
  have h1 := h.hi a (Nat.le_refl _) hsa
  have h2 := h.hi (a + s) (by omega) (Nat.dvd_add hsa (Nat.dvd_refl s))
  have hlen : (D.take a ++ (X ++ D.drop (a + s + s))).length = E.length := by
    rw [← h.len, List.length_append, List.length_append, List.length_drop, hla, hXl]; omega
  refine ⟨hlen, fun p hp hd => ?_, fun p hp hd => ?_⟩
  · by_cases e : p = a
    · subst e
      have e1 : Seg (D.take p ++ (X ++ D.drop (p + s + s))) p (2 * s) = X := by
        unfold Seg
        rw [List.drop_append_of_le_length (by omega), List.drop_of_length_le (by omega), List.nil_append]
        by_cases c : p + 2 * s ≤ D.length
        · rw [List.take_append_of_le_length (by omega), List.take_of_length_le (by omega)]
        · rw [List.drop_of_length_le (by omega : D.length ≤ p + s + s), List.append_nil, List.take_of_length_le (by omega)]
      unfold RunAt
      rw [e1]
      refine ⟨hX.sorted, hX.perm.trans ?_⟩
      rw [Nat.two_mul, seg_cut E p s s]
      exact h1.2.append h2.2
    · have hpa : p < a := by
        obtain ⟨u, hu⟩ := hd
        obtain ⟨v, hv⟩ := ha
        have : u ≤ v := by
          apply Nat.le_of_lt_succ
          apply Nat.lt_of_mul_lt_mul_left (a := 2 * s)
          rw [Nat.mul_succ]; omega
        have h3 : u ≠ v := fun q => e (by rw [hu, hv, q])
        have : 2 * s * u < 2 * s * v := Nat.mul_lt_mul_of_pos_left (by omega) (by omega)
        omega
      have hpa2 : p + 2 * s ≤ a := by
        obtain ⟨u, hu⟩ := hd
        obtain ⟨v, hv⟩ := ha
        have : u < v := by
          apply Nat.lt_of_mul_lt_mul_left (a := 2 * s)
          omega
        have h4 : 2 * s * (u + 1) ≤ 2 * s * v := Nat.mul_le_mul_left _ this
        rw [Nat.mul_succ] at h4
        omega
      have h3 := h.lo p hpa hd
      unfold RunAt at h3 ⊢
      rw [seg_put_lo (Q := []) (D := D) (by rw [hla]) (by rw [hla]; exact hpa2)]
      exact h3
  · by_cases c : D.length ≤ p
    · exact run_out hlen (by rw [← h.len]; exact c)
    have h3 := h.hi p (by omega) hd
    unfold RunAt at h3 ⊢
    rw [seg_put_hi (b := a + s + s) rfl (by rw [List.length_append, hla, hXl]; omega) (by omega)]
    exact h3
/-- Nothing is left to merge: all runs are twice as long. -/
theorem Half.done {K : Keys} {E D : List Int} {s a : Nat} (h : Half K E s a D) (ha : 2 * s ∣ a) (hs : 0 < s) (hl : E.length ≤ a + s) : ∀ p, 2 * s ∣ p → RunAt K E (2 * s) p D := by
  intro p hd
  by_cases c : p < a
  · exact h.lo p c hd
  by_cases c2 : E.length ≤ p
  · exact run_out h.len c2
  have hpa : p = a := by
    obtain ⟨u, hu⟩ := hd
    obtain ⟨v, hv⟩ := ha
    have h1 : v ≤ u := by
      apply Nat.le_of_lt_succ
      apply Nat.lt_of_mul_lt_mul_left (a := 2 * s)
      rw [Nat.mul_succ]; omega
    have h2 : u ≤ v := by
      apply Nat.le_of_lt_succ
      apply Nat.lt_of_mul_lt_mul_left (a := 2 * s)
      rw [Nat.mul_succ]; omega
    rw [hu, hv, Nat.le_antisymm h2 h1]
  subst hpa
  have hsa : s ∣ p := Nat.dvd_trans (Nat.dvd_mul_left s 2) ha
  have h1 := h.hi p (Nat.le_refl _) hsa
  have e1 : Seg D p (2 * s) = Seg D p s := by
    unfold Seg
    rw [List.take_of_length_le (by rw [List.length_drop, h.len]; omega), List.take_of_length_le (by rw [List.length_drop, h.len]; omega)]
  have e2 : Seg E p (2 * s) = Seg E p s := by
    unfold Seg
    rw [List.take_of_length_le (by rw [List.length_drop]; omega), List.take_of_length_le (by rw [List.length_drop]; omega)]
  unfold RunAt at h1 ⊢
  rw [e1, e2]
  exact h1
/-- The first runs, by insertion: behind a all is as it was. -/
structure Firsts (K : Keys) (E : List Int) (s a : Nat) (D : List Int) : Prop where
  len : D.length = E.length
  lo : ∀ p, p < a → s ∣ p → RunAt K E s p D
  hi : D.drop a = E.drop a
theorem Firsts.next {K : Keys} {E D X : List Int} {s a : Nat} (h : Firsts K E s a D) (ha : s ∣ a) (hs : 0 < s) (hal : a ≤ D.length) (hp : X.Perm (Seg D a s)) (hX : X.Pairwise K.T) : Firsts K E s (a + s) (D.take a ++ (X ++ D.drop (a + s))) := by
  have hXl : X.length = min s (D.length - a) := by rw [hp.length_eq, seg_len]
  have hla : (D.take a).length = a := by rw [List.length_take]; omega
  have hlen : (D.take a ++ (X ++ D.drop (a + s))).length = E.length := by
    rw [← h.len, List.length_append, List.length_append, List.length_drop, hla, hXl]; omega
  have hseg : Seg D a s = Seg E a s := by unfold Seg; rw [h.hi]
  refine ⟨hlen, fun p hpp hd => ?_, ?_⟩
  · by_cases e : p = a
    · subst e
      have e1 : Seg (D.take p ++ (X ++ D.drop (p + s))) p s = X := by
        unfold Seg
        rw [List.drop_append_of_le_length (by omega), List.drop_of_length_le (by omega), List.nil_append]
        by_cases c : p + s ≤ D.length
        · rw [List.take_append_of_le_length (by omega), List.take_of_length_le (by omega)]
        · rw [List.drop_of_length_le (by omega : D.length ≤ p + s), List.append_nil, List.take_of_length_le (by omega)]
      unfold RunAt
      rw [e1, ← hseg]
      exact ⟨hX, hp⟩
    · have hpa2 : p + s ≤ a := by
        obtain ⟨u, hu⟩ := hd
        obtain ⟨v, hv⟩ := ha
        have h1 : u ≤ v := by
          apply Nat.le_of_lt_succ
          apply Nat.lt_of_mul_lt_mul_left (a := s)
          rw [Nat.mul_succ]; omega
        have h2 : u ≠ v := fun q => e (by rw [hu, hv, q])
        have h4 : s * (u + 1) ≤ s * v := Nat.mul_le_mul_left _ (by omega)
        rw [Nat.mul_succ] at h4
        omega
      have h3 := h.lo p (by omega) hd
      unfold RunAt at h3 ⊢
      rw [seg_put_lo (Q := []) (D := D) (by rw [hla]) (by rw [hla]; exact hpa2)]
      exact h3
  · by_cases c : a + s ≤ D.length
    · rw [← List.append_assoc, List.drop_append_of_le_length (by rw [List.length_append, hla, hXl]; omega), List.drop_of_length_le (by rw [List.length_append, hla, hXl]; omega), List.nil_append]
      have := congrArg (List.drop s) h.hi
      rwa [List.drop_drop, List.drop_drop] at this
    · rw [List.drop_of_length_le (by rw [hlen, ← h.len]; omega), List.drop_of_length_le (by rw [← h.len]; omega)]
theorem Firsts.all {K : Keys} {E D : List Int} {s a : Nat} (h : Firsts K E s a D) (hl : E.length ≤ a) : ∀ p, s ∣ p → RunAt K E s p D := by
  intro p hd
  by_cases c : p < a
  · exact h.lo p c hd
  · exact run_out h.len (by omega)
theorem Firsts.start (K : Keys) (E : List Int) (s : Nat) : Firsts K E s 0 E := ⟨rfl, fun p hp => absurd hp (Nat.not_lt_zero _), rfl⟩
/-- One run as long as all is the sorted list. -/
theorem run_all {K : Keys} {E D : List Int} {s : Nat} (hE : E.Pairwise (· < ·)) (hl : D.length = E.length) (hs : E.length ≤ s) (h : RunAt K E s 0 D) : D = rankList K E := by
  have e1 : Seg D 0 s = D := by unfold Seg; rw [List.drop_zero, List.take_of_length_le (by omega)]
  have e2 : Seg E 0 s = E := by unfold Seg; rw [List.drop_zero, List.take_of_length_le (by omega)]
  unfold RunAt at h
  rw [e1, e2] at h
  exact rank_of (hE.imp fun {a b} q e => by subst e; exact Int.lt_irrefl _ q) h.2 h.1
end Go.Proofs.Ytfacckjfoajijaa
