/- What the deque has given away and what it still holds: each item once. No condition. -/
import Derived.Test.YtkkcgpoakhllkaaDqPI
import Derived.Test.YtkkcgpoakhllkaaDqLeft
namespace Go.Proofs.Ytkkcgpoakhllkaa
open Go.RowKit Go.Deep
set_option linter.unusedSimpArgs false
set_option linter.unusedVariables false

/-- A mark for each item of a list. -/
def cntOf (L : List Int) : List Int := (List.range 302).map fun i : Nat => if (i : Int) ∈ L then 1 else 0
theorem cnt_len (L : List Int) : (cntOf L).length = 302 := by simp [cntOf]
theorem cnt_get {L : List Int} {x : Nat} (hx : x < 302) : (ints (cntOf L))[x]? = some (.int .i64 (if (x : Int) ∈ L then 1 else 0)) := by
  rw [ints_get]
  simp [cntOf, hx]
theorem cnt_nil : cntOf [] = List.replicate 302 0 := by
  apply List.ext_getElem?
  intro i
  simp only [cntOf, List.not_mem_nil, if_false, List.getElem?_map, List.getElem?_replicate]
  by_cases h : i < 302
  · rw [List.getElem?_range h, if_pos h]; rfl
  · rw [List.getElem?_eq_none (by simp; omega), if_neg h]; rfl
theorem cnt_set {L : List Int} {x : Nat} (hx : x < 302) : (cntOf L).set x 1 = cntOf (L ++ [(x : Int)]) := by
  apply List.ext_getElem?
  intro i
  rw [List.getElem?_set, cnt_len]
  by_cases h : i < 302
  · by_cases e : x = i
    · subst e; rw [if_pos rfl, if_pos hx]; simp [cntOf, hx]
    · rw [if_neg e]
      simp only [cntOf, List.getElem?_map, List.getElem?_range h, Option.map_some, List.mem_append, List.mem_singleton]
      congr 2
      simp only [eq_iff_iff]
      constructor
      · exact fun a => .inl a
      · rintro (a | a)
        · exact a
        · exact absurd (by omega) e
  · rw [if_neg (by omega), List.getElem?_eq_none (by rw [cnt_len]; omega), List.getElem?_eq_none (by rw [cnt_len]; omega)]
/-- All items given away or held, each once, in the range. -/
structure Once (L : List Int) (nx : Int) : Prop where
  lim : 1 ≤ nx ∧ nx ≤ 301
  len : (L.length : Int) = nx - 1
  rng : ∀ x ∈ L, 1 ≤ x ∧ x < nx
  nd : L.Nodup
theorem once_of_perm {L : List Int} {nx : Int} (h1 : 1 ≤ nx ∧ nx ≤ 301) (h : L.Perm ((List.range (nx - 1).toNat).map fun i : Nat => (i : Int) + 1)) : Once L nx := by
  refine ⟨h1, ?_, fun x hx => ?_, ?_⟩
  · have := h.length_eq; simp at this; omega
  · have := h.mem_iff.1 hx
    simp only [List.mem_map, List.mem_range] at this
    obtain ⟨i, hi, rfl⟩ := this
    omega
  · refine h.symm.nodup ?_
    rw [List.nodup_iff_pairwise_ne]
    rw [List.pairwise_map]
    exact List.Pairwise.imp (fun hab => by omega) (List.pairwise_lt_range (n := (nx - 1).toNat))
theorem Once.at_ {L : List Int} {nx x : Int} {k : Nat} (h : Once L nx) (hx : L[k]? = some x) : (1 ≤ x ∧ x < nx) ∧ x ∉ L.take k := by
  refine ⟨h.rng x (List.mem_of_getElem? hx), fun hm => ?_⟩
  obtain ⟨j, hj⟩ := List.mem_iff_getElem?.1 hm
  rw [List.getElem?_take] at hj
  split at hj
  · rename_i hjk
    obtain ⟨p1, p2⟩ := List.getElem?_eq_some_iff.1 hx
    obtain ⟨q1, q2⟩ := List.getElem?_eq_some_iff.1 hj
    have := List.nodup_iff_pairwise_ne.1 h.nd
    exact (List.pairwise_iff_getElem.1 this j k q1 p1 hjk) (by rw [q2, p2])
  · cases hj
theorem left_take {zs : List Int} {t b : Int} (ht : 0 ≤ t) (hb : 0 ≤ b) : ∀ k, k ≤ zs.length → leftTo zs t b k = ((zs.take k).take b.toNat).drop t.toNat
  | 0, _ => by simp [leftTo]
  | k + 1, hk => by
    have ih := left_take ht hb (zs := zs) k (by omega)
    have hz : zs[k]? = some zs[k] := List.getElem?_eq_getElem (by omega)
    rw [leftTo, hz]
    simp only
    have e1 : zs.take (k + 1) = zs.take k ++ [zs[k]] := by rw [List.take_add_one, hz]; rfl
    have hl : (zs.take k).length = k := by rw [List.length_take]; omega
    by_cases h2 : (k : Int) < b
    · have e2 : (zs.take (k + 1)).take b.toNat = zs.take k ++ [zs[k]] := by rw [e1]; exact List.take_of_length_le (by simp; omega)
      have e3 : (zs.take k).take b.toNat = zs.take k := List.take_of_length_le (by omega)
      rw [e2, ih, e3]
      by_cases h1 : t ≤ (k : Int)
      · rw [if_pos ⟨h1, h2⟩, List.drop_append_of_le_length (by omega)]
      · rw [if_neg fun q => h1 q.1, List.drop_eq_nil_of_le (by omega), List.drop_eq_nil_of_le (by simp; omega)]
    · rw [if_neg fun q => h2 q.2, ih, e1, List.take_append_of_le_length (by omega)]
/-- At rest what it holds is what is left. -/
theorem live_left {d : Dq} {n N : Nat} (h : d.Inv n N) (hp : d.own.phase = 0) : d.live = leftTo d.items d.top d.bottom d.items.length := by
  have e : d.vb = d.bottom := by simp [Dq.vb, hp]
  have ht := h.top
  rw [left_take ht.1 (by omega) _ (Nat.le_refl _), List.take_length]
  unfold Dq.live
  rw [e, if_neg (by omega), Nat.add_zero]
theorem inv_once {d : Dq} {n N : Nat} (h : d.Inv n N) (hN : N ≤ 300) : Once (d.took.map (·.item) ++ d.live) d.next := once_of_perm (by have := h.next; omega) h.all
end Go.Proofs.Ytkkcgpoakhllkaa
