/- Edges: plain words. No condition. -/
import Derived.Test.YtheclckjgjaecaaAccOk
namespace Go.Proofs.Ytheclckjgjaecaa
open Go.RowKit Go.Deep

/-- Two accesses that make an edge from a to b. -/
def EdgeOf (x y : Access) (a b : Int) : Prop := a ≠ b ∧ x.who = a ∧ y.who = b ∧ x.cell = y.cell ∧ (x.write = true ∨ y.write = true)
/-- Of the pairs ahead of (i, j) one makes an edge from a to b. -/
def EdgeTo (l : List Access) (i j : Nat) (a b : Int) : Prop := ∃ p q x y, (p < i ∨ (p = i ∧ q < j)) ∧ p < q ∧ l[p]? = some x ∧ l[q]? = some y ∧ EdgeOf x y a b
noncomputable def edgeTo (l : List Access) (i j : Nat) (a b : Int) : Bool := dec (EdgeTo l i j a b)
theorem dec_iff {p q : Prop} (h : p ↔ q) : dec p = dec q := by rw [propext h]
theorem dec_or (p q : Prop) : dec (p ∨ q) = (dec p || dec q) := by
  by_cases h : p
  · rw [dec_yes h, dec_yes (.inl h)]; rfl
  · by_cases k : q
    · rw [dec_yes k, dec_yes (.inr k)]; simp
    · rw [dec_no h, dec_no k, dec_no (fun z => z.elim h k)]; rfl
theorem edgeTo_zero (l : List Access) (a b : Int) : edgeTo l 0 1 a b = false := dec_no fun ⟨p, q, x, y, h, hpq, _⟩ => by omega
theorem edgeTo_step {l : List Access} {i j : Nat} {x y : Access} (hx : l[i]? = some x) (hy : l[j]? = some y) (hij : i < j) (a b : Int) : edgeTo l i (j + 1) a b = (edgeTo l i j a b || dec (EdgeOf x y a b)) := by
  unfold edgeTo
  rw [← dec_or]
  apply dec_iff
  constructor
  · rintro ⟨p, q, x', y', h, hpq, hp, hq, he⟩
    by_cases e : p = i ∧ q = j
    · obtain ⟨rfl, rfl⟩ := e
      rw [hx] at hp
      rw [hy] at hq
      injection hp with hp
      injection hq with hq
      subst hp hq
      exact .inr he
    · exact .inl ⟨p, q, x', y', by omega, hpq, hp, hq, he⟩
  · rintro (⟨p, q, x', y', h, hpq, hp, hq, he⟩ | he)
    · exact ⟨p, q, x', y', by omega, hpq, hp, hq, he⟩
    · exact ⟨i, j, x, y, by omega, hij, hx, hy, he⟩
theorem edgeTo_end {l : List Access} {i j : Nat} (hj : l.length ≤ j) (a b : Int) : edgeTo l i j a b = edgeTo l (i + 1) (i + 2) a b := by
  apply dec_iff
  constructor
  · rintro ⟨p, q, x', y', h, hpq, hp, hq, he⟩
    exact ⟨p, q, x', y', by omega, hpq, hp, hq, he⟩
  · rintro ⟨p, q, x', y', h, hpq, hp, hq, he⟩
    have hq' := (List.getElem?_eq_some_iff.1 hq).1
    exact ⟨p, q, x', y', by omega, hpq, hp, hq, he⟩
/-- An edge leads from a to b. -/
noncomputable def hasEdge (l : List Access) (a b : Int) : Bool := edgeTo l l.length (l.length + 1) a b
noncomputable def rowTo (l : List Access) (a : Nat) (k : Nat) : List Edge := ((List.range k).filter fun (b : Nat) => hasEdge l a b).map fun (b : Nat) => ⟨(a : Int), (b : Int)⟩
noncomputable def edTo (l : List Access) (k : Nat) : List Edge := (List.range k).flatMap fun a => rowTo l a 9
noncomputable def edges (l : List Access) : List Edge := if accOk l = true then edTo l 9 else []
theorem rowTo_hit {l : List Access} {a k : Nat} (h : hasEdge l a k = true) : rowTo l a (k + 1) = rowTo l a k ++ [⟨(a : Int), (k : Int)⟩] := by
  simp [rowTo, List.range_succ, List.filter_append, h]
theorem rowTo_miss {l : List Access} {a k : Nat} (h : hasEdge l a k = false) : rowTo l a (k + 1) = rowTo l a k := by
  simp [rowTo, List.range_succ, List.filter_append, h]
theorem edTo_succ (l : List Access) (k : Nat) : edTo l (k + 1) = edTo l k ++ rowTo l k 9 := by simp [edTo, List.range_succ]
theorem rowTo_le (l : List Access) (a k : Nat) : (rowTo l a k).length ≤ k := by
  unfold rowTo
  rw [List.length_map]
  exact Nat.le_trans (List.length_filter_le _ _) (by simp)
theorem edTo_le (l : List Access) : ∀ k, (edTo l k).length ≤ k * 9
  | 0 => by simp [edTo]
  | k + 1 => by
    have ih := edTo_le l k
    have h := rowTo_le l k 9
    rw [edTo_succ, List.length_append]
    omega
theorem edges_yes {l : List Access} (h : accOk l = true) : edges l = edTo l 9 := if_pos h
theorem edges_no {l : List Access} (h : accOk l = false) : edges l = [] := if_neg (by rw [h]; decide)
theorem edges_le (l : List Access) : (edges l).length ≤ 81 := by
  cases h : accOk l
  · rw [edges_no h]; exact Nat.zero_le _
  · rw [edges_yes h]; exact edTo_le l 9
/-- The program's square of flags. -/
def gridv (f : Nat → Nat → Bool) : Array Value := ((List.range 81).map fun p => Value.bool (f (p / 9) (p % 9))).toArray
theorem gridv_size (f : Nat → Nat → Bool) : (gridv f).size = 81 := by simp [gridv]
theorem gridv_get (f : Nat → Nat → Bool) {a b : Nat} (ha : a < 9) (hb : b < 9) : (gridv f)[a * 9 + b]? = some (.bool (f a b)) := by
  have h : a * 9 + b < 81 := by omega
  simp only [gridv, List.getElem?_toArray, List.getElem?_map, List.getElem?_range h, Option.map_some]
  congr 3 <;> omega
theorem gridv_set (f : Nat → Nat → Bool) {a b : Nat} (ha : a < 9) (hb : b < 9) : (gridv f).setIfInBounds (a * 9 + b) (.bool true) = gridv fun x y => f x y || (decide (x = a) && decide (y = b)) := by
  apply Array.ext_getElem?
  intro i
  rw [Array.getElem?_setIfInBounds, gridv_size]
  by_cases hi : i < 81
  · have h1 : ∀ g : Nat → Nat → Bool, (gridv g)[i]? = some (.bool (g (i / 9) (i % 9))) := fun g => by simp only [gridv, List.getElem?_toArray, List.getElem?_map, List.getElem?_range hi, Option.map_some]
    rw [h1, h1]
    by_cases e : a * 9 + b = i
    · have e1 : i / 9 = a := by omega
      have e2 : i % 9 = b := by omega
      rw [if_pos e, if_pos (by omega), e1, e2]
      simp
    · rw [if_neg e]
      have : ¬ (i / 9 = a ∧ i % 9 = b) := by omega
      congr 2
      by_cases e1 : i / 9 = a
      · have e2 : ¬ i % 9 = b := fun z => this ⟨e1, z⟩
        simp [e2]
      · simp [e1]
  · rw [if_neg (by omega), Array.getElem?_eq_none (by rw [gridv_size]; omega), Array.getElem?_eq_none (by rw [gridv_size]; omega)]
theorem gridv_congr {f g : Nat → Nat → Bool} (h : ∀ a b, a < 9 → b < 9 → f a b = g a b) : gridv f = gridv g := by
  apply Array.ext_getElem?
  intro i
  by_cases hi : i < 81
  · have h1 : ∀ g : Nat → Nat → Bool, (gridv g)[i]? = some (.bool (g (i / 9) (i % 9))) := fun g => by simp only [gridv, List.getElem?_toArray, List.getElem?_map, List.getElem?_range hi, Option.map_some]
    rw [h1, h1, h _ _ (by omega) (by omega)]
  · rw [Array.getElem?_eq_none (by rw [gridv_size]; omega), Array.getElem?_eq_none (by rw [gridv_size]; omega)]
end Go.Proofs.Ytheclckjgjaecaa
