/- Sort and Compact of an owned row of ints, and what they make of it: the numbers in it, ascending, each once. No condition but sizes. -/
import Derived.Test.YtcnkmbofpppfaaaSortIL
import Derived.Test.YtcnkmbofpppfaaaMineP
namespace Go.Proofs.Ytcnkmbofpppfaaa
open Go.RowKit Go.Deep Go.Shelf Go.Lib Go.Sort
set_option linter.unusedSimpArgs false
set_option linter.unusedVariables false

section
variable {b w w' : World} {rs : List Res} {i : Nat} {e : TypeId} {n c g : Nat} {d d' : List Int}
theorem ints_get! {l : List Int} {j : Nat} (h : j < l.length) : (ints l)[j]? = some (.int .i64 l.toArray[j]!) := by
  rw [getElem!_pos l.toArray j (by simpa using h)]
  simp [ints, h]
theorem own_holds {base : Nat} (h : w.ownsRow base e 1 (.slice (some ⟨g, 0, none⟩) n c) n (ints d)) (hd : d.length = n) : Holds (Value.int .i64) w g 0 d.toArray := by
  intro j hj
  have hj' : j < d.length := by simpa using hj
  have h1 := h.cellAt j (by omega)
  rw [ints_get! hj'] at h1
  rw [Nat.zero_add]
  exact ⟨h1, h.frozenAt j⟩
theorem Mine.putI (M : Mine b w rs) (hi : rs[i]? = some (.row e 1 (some ⟨g, 0, none⟩) n c (ints d))) (hd' : d'.length = n) (hC : Chg (fun j => j = g) w w') (hg : ∀ cur, w.heap[g]? = some (.cells cur e) → w'.heap[g]? = some (.cells (putCells (Value.int .i64) 0 d'.toArray cur) e)) :
    Mine b w' (rs.set i (.row e 1 (some ⟨g, 0, none⟩) n c (ints d'))) := by
  have hr := M.row_at i hi
  refine M.swap hi hC (fun j hj => by rw [hj]; rfl) ?_ fun j hj => .inl hj
  show World.ownsRow _ _ _ _ _ _ _
  refine ⟨by rw [ints_length]; omega, ?_⟩
  rcases hr.2 with ⟨hv, h0⟩ | ⟨g', cap, cur, hv, hb, hh, hnc, hcm, hcs, htake⟩
  · cases hv
  injection hv with h1 h2 h3
  injection h1 with h1
  injection h1 with h1
  subst h1 h3
  refine .inr ⟨g, c, _, rfl, hb, hg _ hh, hnc, hcm, by simp [putCells, hcs], ?_⟩
  apply List.ext_getElem?
  intro j
  by_cases hj : j < n * 1
  · have hjd : j < d'.length := by omega
    have hjc : j < cur.size := by omega
    rw [List.getElem?_take_of_lt hj, Array.getElem?_toList, ints_get! hjd]
    simp [putCells, hjd, hjc]
  · rw [List.getElem?_take_eq_none (by omega), List.getElem?_eq_none (by rw [ints_length]; omega)]
theorem Mine.same {r : Res} (M : Mine b w rs) (hi : rs[i]? = some r) : Mine b w (rs.set i r) := by
  have : rs.set i r = rs := by
    apply List.ext_getElem?
    intro j
    rw [List.getElem?_set]
    split
    · rename_i h; subst h; split
      · exact hi.symm
      · rename_i h; rw [List.getElem?_eq_none (by omega)]
    · rfl
  rw [this]; exact M
end
theorem mergeSort_len (zs : List Int) : (zs.mergeSort fun x y => decide (x ≤ y)).length = zs.length := (List.mergeSort_perm zs _).length_eq
theorem compact_len (zs : List Int) : (compact zs).length ≤ zs.length := by
  unfold compact compactUpTo
  rw [List.length_map]
  exact Nat.le_trans (List.length_filter_le _ _) (by simp)
section
variable {b w : World} {rs : List Res} {n c : Nat} {A : Option Addr} {zs : List Int}
theorem sortInts_any (M : Mine b w rs) (i : Nat) (hi : rs[i]? = some (.row 3 1 A n c (ints zs))) (hn : n ≤ 1048576) :
    Calls Try.prog 48 #[.slice A n c] w fun e w' => e = .returned (.tuple #[]) ∧ Mine b w' (rs.set i (.row 3 1 A n c (ints (zs.mergeSort fun x y => decide (x ≤ y))))) := by
  have hl := M.len1 i hi
  rw [ints_length] at hl
  by_cases h0 : n = 0
  · subst h0
    obtain rfl := List.eq_nil_of_length_eq_zero hl
    refine (show Calls Try.prog 48 _ _ _ from Any.slices_Sort_int_none Try.sortI A c w).mono ?_
    rintro e w' ⟨rfl, rfl⟩
    exact ⟨rfl, M.same (by rw [hi]; simp)⟩
  · obtain ⟨g, rfl⟩ := M.addr i hi (by omega)
    have hr := M.row_at i hi
    have hlt := (hr.lt g rfl).2
    have hc := Any.slices_Sort_int Try.sortI g 0 c zs w (own_holds hr hl) hlt (by omega)
    rw [hl] at hc
    refine (show Calls Try.prog 48 _ _ _ from hc).mono ?_
    rintro e w' ⟨rfl, m, os, rfl⟩
    refine ⟨rfl, M.putI hi (by rw [mergeSort_len]; exact hl) ⟨rfl, rfl, rfl, by simp [grow, putRow, mapBlock, Sort.ahead], fun j hj hne => ?_⟩ fun cur hh => ?_⟩
    · rw [heap_grow_old _ _ (by simpa [putRow, mapBlock, Sort.ahead] using hj)]
      simp [putRow, mapBlock, Sort.ahead, Array.getElem?_modify, Ne.symm hne]
    · rw [heap_grow_old _ _ (by simpa [putRow, mapBlock, Sort.ahead] using hlt)]
      simp [putRow, mapBlock, Sort.ahead, Array.getElem?_modify, hh, onCells]
theorem compactInts_any (M : Mine b w rs) (i : Nat) (hi : rs[i]? = some (.row 3 1 A n c (ints zs))) (hn : n ≤ 1048576) :
    Calls Try.prog 49 #[.slice A n c] w fun e w' => ∃ m, e = .returned (.slice A m c) ∧ Mine b w' (rs.set i (.row 3 1 A m c (ints (compact zs)))) := by
  have hl := M.len1 i hi
  rw [ints_length] at hl
  by_cases h0 : n = 0
  · subst h0
    obtain rfl := List.eq_nil_of_length_eq_zero hl
    refine (show Calls Try.prog 49 _ _ _ from Any.slices_Compact_int_empty Try.compI A c w).mono ?_
    rintro e w' ⟨rfl, rfl⟩
    exact ⟨0, rfl, M.same (by rw [hi]; rfl)⟩
  · obtain ⟨g, rfl⟩ := M.addr i hi (by omega)
    have hr := M.row_at i hi
    have hlt := (hr.lt g rfl).2
    have hnc : n ≤ c := by
      rcases hr.2 with ⟨hv, h0⟩ | ⟨g', cap, cur, hv, hb, hh, hnc, hcm, hcs, htake⟩
      · cases hv
      injection hv with h1 h2 h3
      subst h3; exact hnc
    have hc := Any.slices_Compact_int Try.compI g 0 c zs w (own_holds hr hl) (by omega) (by omega)
    rw [hl] at hc
    refine (show Calls Try.prog 49 _ _ _ from hc).mono ?_
    rintro e w' ⟨rfl, m, rfl⟩
    have hcl := compact_len zs
    have M1 := M.putI (d' := compact zs ++ List.replicate (n - (compact zs).length) 0) (w' := putRow (Value.int .i64) (Sort.ahead w m) g 0 (compact zs ++ List.replicate (n - (compact zs).length) 0).toArray) hi (by simp; omega) ⟨rfl, rfl, rfl, by simp [putRow, mapBlock, Sort.ahead], fun j hj hne => by simp [putRow, mapBlock, Sort.ahead, Array.getElem?_modify, Ne.symm hne]⟩ fun cur hh => by simp [putRow, mapBlock, Sort.ahead, Array.getElem?_modify, hh, onCells]
    have hil : i < rs.length := (List.getElem?_eq_some_iff.1 hi).1
    have hi2 : ∀ r : Res, (rs.set i r)[i]? = some r := fun r => by rw [List.getElem?_set]; simp [hil]
    have M2 := M1.cut i (hi2 _) (m := (compact zs).length) (by omega)
    refine ⟨_, rfl, ?_⟩
    simp only [List.set_set] at M2
    have e1 : (ints (compact zs ++ List.replicate (n - (compact zs).length) 0)).take ((compact zs).length * 1) = ints (compact zs) := by
      unfold ints
      rw [List.map_append, List.take_left' (by simp)]
    rw [e1] at M2
    exact M2
end
/-- Two ascending lists of the same numbers are the same. -/
theorem asc_same : ∀ (a b : List Int), a.Pairwise (· < ·) → b.Pairwise (· < ·) → (∀ x, x ∈ a ↔ x ∈ b) → a = b
  | [], [], _, _, _ => rfl
  | [], y :: b, _, _, h => absurd ((h y).2 (by simp)) (by simp)
  | x :: a, [], _, _, h => absurd ((h x).1 (by simp)) (by simp)
  | x :: a, y :: b, ha, hb, h => by
    rw [List.pairwise_cons] at ha hb
    have hx := (h x).1 (by simp)
    have hy := (h y).2 (by simp)
    have e : x = y := by
      rcases List.mem_cons.1 hx with q | q
      · exact q
      · rcases List.mem_cons.1 hy with r | r
        · exact r.symm
        · have := hb.1 x q; have := ha.1 y r; omega
    subst e
    rw [asc_same a b ha.2 hb.2 fun z => ?_]
    constructor
    · intro hz
      rcases List.mem_cons.1 ((h z).1 (List.mem_cons_of_mem _ hz)) with q | q
      · have := ha.1 z hz; omega
      · exact q
    · intro hz
      rcases List.mem_cons.1 ((h z).2 (List.mem_cons_of_mem _ hz)) with q | q
      · have := hb.1 z hz; omega
      · exact q
theorem compact_asc {d : Array Int} (hs : ∀ i j, i < j → j < d.size → d[i]! ≤ d[j]!) : ∀ m, m ≤ d.size → (compactUpTo d m).Pairwise (· < ·) ∧ ∀ x, x ∈ compactUpTo d m ↔ ∃ j, j < m ∧ d[j]! = x
  | 0, _ => ⟨by simp [compactUpTo], fun x => by simp [compactUpTo]⟩
  | m + 1, hm => by
    obtain ⟨i1, i2⟩ := compact_asc hs m (by omega)
    rw [compactUpTo_succ]
    by_cases hk : keeps d m = true
    · rw [if_pos hk]
      refine ⟨List.pairwise_append.2 ⟨i1, by simp, fun a ha z hz => ?_⟩, fun x => ?_⟩
      · obtain ⟨j, hj, rfl⟩ := (i2 a).1 ha
        simp at hz
        subst hz
        have h1 : d[m]! ≠ d[m - 1]! := by
          intro e
          rw [keeps_neg (by omega) e] at hk
          cases hk
        have h2 := hs (m - 1) m (by omega) (by omega)
        by_cases e : j = m - 1
        · subst e; omega
        · have := hs j (m - 1) (by omega) (by omega); omega
      · rw [List.mem_append, i2]
        constructor
        · rintro (⟨j, hj, e⟩ | h)
          · exact ⟨j, by omega, e⟩
          · simp at h; exact ⟨m, by omega, h.symm⟩
        · rintro ⟨j, hj, e⟩
          by_cases q : j = m
          · subst q; exact .inr (by simp [e])
          · exact .inl ⟨j, by omega, e⟩
    · rw [if_neg hk, List.append_nil]
      refine ⟨i1, fun x => ?_⟩
      rw [i2]
      constructor
      · rintro ⟨j, hj, e⟩; exact ⟨j, by omega, e⟩
      · rintro ⟨j, hj, e⟩
        by_cases q : j = m
        · subst q
          have h0 : j ≠ 0 := fun h => hk (by simp [keeps, h])
          have h1 : d[j]! = d[j - 1]! := Classical.byContradiction fun h => hk (keeps_pos h)
          exact ⟨j - 1, by omega, by rw [← h1]; exact e⟩
        · exact ⟨j, by omega, e⟩
/-- The numbers below N that are in vs, ascending. -/
noncomputable def ascTo (vs : List Int) (N : Nat) : List Int := ((List.range N).filter fun i : Nat => dec ((i : Int) ∈ vs)).map fun i : Nat => (i : Int)
theorem ascTo_zero (vs : List Int) : ascTo vs 0 = [] := rfl
theorem ascTo_yes {vs : List Int} {m : Nat} (h : (m : Int) ∈ vs) : ascTo vs (m + 1) = ascTo vs m ++ [(m : Int)] := by
  unfold ascTo
  rw [List.range_succ, List.filter_append, List.map_append]
  simp [List.filter_cons, dec_yes h]
theorem ascTo_no {vs : List Int} {m : Nat} (h : ¬ (m : Int) ∈ vs) : ascTo vs (m + 1) = ascTo vs m := by
  unfold ascTo
  rw [List.range_succ, List.filter_append, List.map_append]
  simp [List.filter_cons, dec_no h]
theorem ascTo_len (vs : List Int) (m : Nat) : (ascTo vs m).length ≤ m := by
  unfold ascTo
  rw [List.length_map]
  exact Nat.le_trans (List.length_filter_le _ _) (by simp)
theorem ascTo_asc (vs : List Int) : ∀ m, (ascTo vs m).Pairwise (· < ·) ∧ ∀ x, x ∈ ascTo vs m ↔ (0 ≤ x ∧ x < m) ∧ x ∈ vs
  | 0 => ⟨by simp [ascTo], fun x => by simp [ascTo]; omega⟩
  | m + 1 => by
    obtain ⟨i1, i2⟩ := ascTo_asc vs m
    by_cases h : (m : Int) ∈ vs
    · rw [ascTo_yes h]
      refine ⟨List.pairwise_append.2 ⟨i1, by simp, fun a ha z hz => ?_⟩, fun x => ?_⟩
      · have := (i2 a).1 ha
        simp at hz
        omega
      · rw [List.mem_append, i2]
        constructor
        · rintro (q | q)
          · exact ⟨by omega, q.2⟩
          · simp at q; subst q; exact ⟨by omega, h⟩
        · rintro ⟨q, r⟩
          by_cases e : x = m
          · exact .inr (by simp [e])
          · exact .inl ⟨by omega, r⟩
    · rw [ascTo_no h]
      refine ⟨i1, fun x => ?_⟩
      rw [i2]
      constructor
      · rintro ⟨q, r⟩; exact ⟨by omega, r⟩
      · rintro ⟨q, r⟩
        by_cases e : x = m
        · subst e; exact absurd r h
        · exact ⟨by omega, r⟩
/-- Sorted and made compact: ascending, each once. -/
theorem compact_sorted {vs : List Int} {N : Nat} (h : ∀ x ∈ vs, 0 ≤ x ∧ x < N) : compact (vs.mergeSort fun x y => decide (x ≤ y)) = ascTo vs N := by
  have hp := List.mergeSort_perm vs (fun x y => decide (x ≤ y))
  have hs : (vs.mergeSort fun x y => decide (x ≤ y)).Pairwise (fun x y => decide (x ≤ y) = true) := List.pairwise_mergeSort (fun a b c h1 h2 => by simp at *; omega) (fun a b => by simp; omega) vs
  generalize (vs.mergeSort fun x y => decide (x ≤ y)) = zs at hp hs
  have hd : ∀ i j, i < j → j < zs.toArray.size → zs.toArray[i]! ≤ zs.toArray[j]! := by
    intro i j hij hj
    have hj' : j < zs.length := by simpa using hj
    have h1 := List.pairwise_iff_getElem.1 hs i j (by omega) hj' hij
    rw [getElem!_pos zs.toArray i (by simp; omega), getElem!_pos zs.toArray j hj]
    simpa using h1
  obtain ⟨i1, i2⟩ := compact_asc hd zs.length (by simp)
  obtain ⟨j1, j2⟩ := ascTo_asc vs N
  refine asc_same _ _ i1 j1 fun x => ?_
  show x ∈ compactUpTo zs.toArray zs.length ↔ _
  rw [i2, j2]
  constructor
  · rintro ⟨j, hj, rfl⟩
    have hm : zs.toArray[j]! ∈ zs := by
      rw [getElem!_pos zs.toArray j (by simpa using hj)]
      simp
    have hv := hp.mem_iff.1 hm
    exact ⟨h _ hv, hv⟩
  · rintro ⟨_, hx⟩
    obtain ⟨j, hj, e⟩ := List.getElem_of_mem (hp.mem_iff.2 hx)
    exact ⟨j, hj, by rw [getElem!_pos zs.toArray j (by simpa using hj)]; simpa using e⟩
end Go.Proofs.Ytcnkmbofpppfaaa
