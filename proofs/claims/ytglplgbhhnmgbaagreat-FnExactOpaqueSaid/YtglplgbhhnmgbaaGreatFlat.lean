/- Lists of structs in a row: one cell, one element is set; what make lays. No condition. -/
import Derived.Test.YtglplgbhhnmgbaaGreatMineV
namespace Go.Proofs.YtglplgbhhnmgbaaGreat
open Go.RowKit Go.Deep
set_option linter.unusedSimpArgs false
set_option linter.unusedVariables false

theorem ints_set (l : List Int) (k : Nat) (v : Int) : (ints l).set k (.int .i64 v) = ints (l.set k v) := by simp [ints, List.map_set]
theorem ints_push (l : List Int) (v : Int) : ints l ++ [.int .i64 v] = ints (l ++ [v]) := by simp [ints]
theorem Mine.of_drN {b w wq : World} {rs : List Res} (M : Mine b w rs) {n : Nat} (h : w.drewN n = wq) : Mine b wq rs := h ▸ M.drN n
theorem flat_len {α : Type} {cells : α → List Value} {size : Nat} (hc : ∀ a, (cells a).length = size) (l : List α) : (l.flatMap cells).length = l.length * size := flat_length hc l
theorem flat_ext {α : Type} {cells : α → List Value} {size : Nat} (hc : ∀ a, (cells a).length = size) (hp : 0 < size) {l : List α} {xs : List Value} (hl : xs.length = l.length * size) (h : ∀ k f a, l[k]? = some a → f < size → xs[k * size + f]? = (cells a)[f]?) : xs = l.flatMap cells := by
  apply List.ext_getElem?
  intro i
  by_cases hi : i < l.length * size
  · have hq : i / size < l.length := (Nat.div_lt_iff_lt_mul hp).2 hi
    have hr : i % size < size := Nat.mod_lt _ hp
    have hd : i / size * size + i % size = i := by rw [Nat.mul_comm]; exact Nat.div_add_mod _ _
    have h1 := h (i / size) (i % size) _ (List.getElem?_eq_getElem hq) hr
    have h2 := flat_get (cells := cells) hc l (i / size) (i % size) _ (List.getElem?_eq_getElem hq) hr
    rw [hd] at h1 h2
    rw [h1, h2]
  · rw [List.getElem?_eq_none (by omega), List.getElem?_eq_none (by rw [flat_length hc]; omega)]
/-- One cell of one element is set. -/
theorem flat_set {α : Type} {cells : α → List Value} {size : Nat} (hc : ∀ a, (cells a).length = size) (hp : 0 < size) {l : List α} {k f : Nat} {x a : α} {v : Value} (hk : l[k]? = some x) (hf : f < size) (ha : (cells x).set f v = cells a) : (l.flatMap cells).set (k * size + f) v = (l.set k a).flatMap cells := by
  apply flat_ext hc hp (by rw [List.length_set, List.length_set, flat_length hc])
  intro q r y hy hr
  have hkl := (List.getElem?_eq_some_iff.1 hk).1
  rw [List.getElem?_set] at hy
  rw [List.getElem?_set]
  have hmul : (k + 1) * size ≤ l.length * size := Nat.mul_le_mul_right _ hkl
  rw [Nat.succ_mul] at hmul
  by_cases e : k = q
  · subst e
    rw [if_pos rfl, if_pos hkl] at hy
    injection hy with hy
    subst hy
    rw [← ha, List.getElem?_set, hc]
    by_cases e2 : f = r
    · subst e2; rw [if_pos rfl, if_pos rfl, if_pos (by rw [flat_length hc]; omega), if_pos hf]
    · rw [if_neg (by first | omega | (dsimp only; omega)), if_neg e2]
      exact flat_get hc l k r x hk hr
  · rw [if_neg e] at hy
    rw [if_neg]
    · exact flat_get hc l q r y hy hr
    · intro e2
      apply e
      have h1 : (k * size + f) / size = k := by rw [Nat.mul_comm, Nat.mul_add_div hp, Nat.div_eq_of_lt hf, Nat.add_zero]
      have h2 : (q * size + r) / size = q := by rw [Nat.mul_comm, Nat.mul_add_div hp, Nat.div_eq_of_lt hr, Nat.add_zero]
      rw [← h1, ← h2, e2]
theorem putAt_out : ∀ (row cs : List Value) (p i : Nat), i < p ∨ p + row.length ≤ i → (putAt cs p row)[i]? = cs[i]?
  | [], _, _, _, _ => rfl
  | v :: r, cs, p, i, h => by
    simp only [List.length_cons] at h
    rw [putAt, putAt_out r _ _ _ (by omega), List.getElem?_set_ne (by omega)]
/-- One element is set whole. -/
theorem flat_put {α : Type} {cells : α → List Value} {size : Nat} (hc : ∀ a, (cells a).length = size) (hp : 0 < size) {l : List α} {k : Nat} {a : α} (hk : k < l.length) : putAt (l.flatMap cells) (k * size) (cells a) = (l.set k a).flatMap cells := by
  apply flat_ext hc hp (by rw [putAt_len, List.length_set, flat_length hc])
  intro q r y hy hr
  rw [List.getElem?_set] at hy
  have hmul : (k + 1) * size ≤ l.length * size := Nat.mul_le_mul_right _ hk
  rw [Nat.succ_mul] at hmul
  by_cases e : k = q
  · subst e
    rw [if_pos rfl, if_pos hk] at hy
    injection hy with hy
    subst hy
    rw [putAt_at _ _ _ _ (by rw [hc]; exact hr) (by rw [hc, flat_length hc]; exact hmul)]
  · rw [if_neg e] at hy
    rw [putAt_out]
    · exact flat_get hc l q r y hy hr
    · rw [hc]
      by_cases e2 : q < k
      · left
        have : (q + 1) * size ≤ k * size := Nat.mul_le_mul_right _ e2
        rw [Nat.succ_mul] at this
        omega
      · right
        have : (k + 1) * size ≤ q * size := Nat.mul_le_mul_right _ (by omega)
        rw [Nat.succ_mul] at this
        omega
theorem Mine.tail {b w : World} {r : Res} {fr : List Res} (M : Mine b w (r :: fr)) : Mine b w fr := M.sub (List.Sublist.cons _ (List.Sublist.refl _))

/-- What make has laid, as a list of elements. -/
theorem made_flat {α : Type} {cells : α → List Value} {size : Nat} (hc : ∀ a, (cells a).length = size) (hp : 0 < size) {z : Value} {a : α} (hz : z.cells.toList = cells a) (n : Nat) : (madeCells z.cells (n * size)).toList = (List.replicate n a).flatMap cells := by
  have hzs : z.cells.size = size := by rw [← hc a, ← hz]; simp
  apply flat_ext hc hp (by simp [madeCells])
  intro k f b hb hf
  have e : b = a := by rw [List.getElem?_replicate] at hb; split at hb <;> simp_all
  subst e
  have hk : k < n := by rw [List.getElem?_replicate] at hb; split at hb <;> simp_all
  have hlt : k * size + f < n * size := by
    have : (k + 1) * size ≤ n * size := Nat.mul_le_mul_right _ hk
    rw [Nat.succ_mul] at this
    omega
  have hm : (k * size + f) % size = f := by rw [Nat.mul_comm, Nat.mul_add_mod, Nat.mod_eq_of_lt hf]
  simp only [madeCells, Array.toList_map, Array.toList_range, List.getElem?_map, List.getElem?_range hlt, Option.map_some, hzs, hm, ← hz]
  rw [getElem!_pos z.cells f (by omega), List.getElem?_eq_getElem (by simp; omega)]
  simp
end Go.Proofs.YtglplgbhhnmgbaaGreat
