/- Accesses in the order of their graph: what they read and who wrote last (plain). No condition. -/
import Derived.Test.YtheclckjgjaecaaLastW
import Derived.Test.YtheclckjgjaecaaInOrd
import Derived.Test.YtheclckjgjaecaaEdgeP
import Derived.Test.YtheclckjgjaecaaTopoQ
namespace Go.Proofs.Ytheclckjgjaecaa
open Go.RowKit Go.Deep

/-- How many of one stand ahead. -/
def occ (l : List Access) (x : Int) (k : Nat) : Nat := (ofWho l x k).length
theorem occ_hit {l : List Access} {x : Int} {k : Nat} {a : Access} (h : l[k]? = some a) (h1 : a.who = x) : occ l x (k + 1) = occ l x k + 1 := by
  unfold occ; rw [ofWho_hit h h1, List.length_append]; rfl
theorem occ_miss {l : List Access} {x : Int} {k : Nat} {a : Access} (h : l[k]? = some a) (h1 : a.who ≠ x) : occ l x (k + 1) = occ l x k := by
  unfold occ; rw [ofWho_miss h h1]
theorem ofWho_pre (l : List Access) (x : Int) (k : Nat) : ofWho l x k <+: ofWho l x (k + 1) := by
  cases h : l[k]? with
  | none => rw [ofWho, ofWho, List.take_add_one, h]; simp
  | some a =>
    by_cases e : a.who = x
    · rw [ofWho_hit h e]; exact List.prefix_append _ _
    · rw [ofWho_miss h e]; exact List.prefix_rfl
theorem ofWho_pres (l : List Access) (x : Int) {i : Nat} : ∀ {k : Nat}, i ≤ k → ofWho l x i <+: ofWho l x k
  | 0, h => by rw [show i = 0 by omega]; exact List.prefix_rfl
  | k + 1, h => by
    by_cases e : i = k + 1
    · rw [e]; exact List.prefix_rfl
    · exact (ofWho_pres l x (by omega)).trans (ofWho_pre l x k)
theorem occ_mono (l : List Access) (x : Int) {i k : Nat} (h : i ≤ k) : occ l x i ≤ occ l x k := (ofWho_pres l x h).length_le
theorem ofWho_at {l : List Access} {x : Int} {i : Nat} {a : Access} (h : l[i]? = some a) (h1 : a.who = x) : (ofWho l x l.length)[occ l x i]? = some a := by
  have hi : i < l.length := (List.getElem?_eq_some_iff.1 h).1
  obtain ⟨t, ht⟩ := ofWho_pres l x (i := i + 1) (k := l.length) hi
  rw [← ht, ofWho_hit h h1]
  unfold occ
  rw [List.append_assoc, List.getElem?_append_right (Nat.le_refl _)]
  simp
theorem ofWho_find (l : List Access) (x : Int) {n : Nat} {a : Access} : ∀ {k : Nat}, (ofWho l x k)[n]? = some a → ∃ i, i < k ∧ l[i]? = some a ∧ a.who = x ∧ occ l x i = n
  | 0, h => by simp [ofWho] at h
  | k + 1, h => by
    cases hk : l[k]? with
    | none =>
      have e : ofWho l x (k + 1) = ofWho l x k := by rw [ofWho, ofWho, List.take_add_one, hk]; simp
      rw [e] at h
      obtain ⟨i, h1, h2⟩ := ofWho_find l x h
      exact ⟨i, by omega, h2⟩
    | some b =>
      by_cases e : b.who = x
      · rw [ofWho_hit hk e] at h
        by_cases hn : n < (ofWho l x k).length
        · rw [List.getElem?_append_left hn] at h
          obtain ⟨i, h1, h2⟩ := ofWho_find l x h
          exact ⟨i, by omega, h2⟩
        · rw [List.getElem?_append_right (by omega)] at h
          have h0 : n - (ofWho l x k).length = 0 := by have := (List.getElem?_eq_some_iff.1 h).1; simp at this; omega
          rw [h0] at h
          simp at h
          subst h
          exact ⟨k, by omega, hk, e, by unfold occ; omega⟩
      · rw [ofWho_miss hk e] at h
        obtain ⟨i, h1, h2⟩ := ofWho_find l x h
        exact ⟨i, by omega, h2⟩
theorem occ_inj {l : List Access} {x : Int} {i k : Nat} {a b : Access} (hi : l[i]? = some a) (hk : l[k]? = some b) (ha : a.who = x) (hb : b.who = x) (h : occ l x i = occ l x k) : i = k := by
  by_cases h1 : i < k
  · have := occ_hit hi ha; have := occ_mono l x (show i + 1 ≤ k by omega); omega
  · by_cases h2 : k < i
    · have := occ_hit hk hb; have := occ_mono l x (show k + 1 ≤ i by omega); omega
    · omega

/-- Place i of l went to place j of m. -/
def To (l m : List Access) (i j : Nat) : Prop := ∃ a, l[i]? = some a ∧ m[j]? = some a ∧ occ l a.who i = occ m a.who j
/-- The two hold, of each, the same ones in the same order; conflicts keep their order. -/
structure Same (l m : List Access) : Prop where
  who : ∀ x, ofWho m x m.length = ofWho l x l.length
  keep : ∀ {i k p q : Nat} {a b : Access}, To l m i p → To l m k q → l[i]? = some a → l[k]? = some b → i < k → a.cell = b.cell → (a.write = true ∨ b.write = true) → a.who ≠ b.who → p < q

theorem Same.there {l m : List Access} (h : Same l m) {i : Nat} {a : Access} (hi : l[i]? = some a) : ∃ j, To l m i j := by
  have h1 := ofWho_at hi rfl
  rw [← h.who] at h1
  obtain ⟨j, _, h2, _, h3⟩ := ofWho_find m _ h1
  exact ⟨j, a, hi, h2, h3.symm⟩
theorem Same.back {l m : List Access} (h : Same l m) {j : Nat} {a : Access} (hj : m[j]? = some a) : ∃ i, To l m i j := by
  have h1 := ofWho_at hj rfl
  rw [h.who] at h1
  obtain ⟨i, _, h2, _, h3⟩ := ofWho_find l _ h1
  exact ⟨i, a, h2, hj, h3⟩
theorem To.left {l m : List Access} {i j : Nat} {a : Access} (h : To l m i j) (ha : l[i]? = some a) : m[j]? = some a ∧ occ l a.who i = occ m a.who j := by
  obtain ⟨b, h1, h2, h3⟩ := h
  rw [ha] at h1
  injection h1 with h1
  subst h1
  exact ⟨h2, h3⟩
theorem To.right {l m : List Access} {i j : Nat} {a : Access} (h : To l m i j) (ha : m[j]? = some a) : l[i]? = some a ∧ occ l a.who i = occ m a.who j := by
  obtain ⟨b, h1, h2, h3⟩ := h
  rw [ha] at h2
  injection h2 with h2
  subst h2
  exact ⟨h1, h3⟩
theorem To.fn {l m : List Access} {i j k : Nat} (h : To l m i j) (h' : To l m i k) : j = k := by
  obtain ⟨a, h1, h2, h3⟩ := h
  obtain ⟨h4, h5⟩ := h'.left h1
  exact occ_inj h2 h4 rfl rfl (by omega)
theorem To.inj {l m : List Access} {i j k : Nat} (h : To l m i j) (h' : To l m k j) : i = k := by
  obtain ⟨a, h1, h2, h3⟩ := h
  obtain ⟨h4, h5⟩ := h'.right h2
  exact occ_inj h1 h4 rfl rfl (by omega)
/-- Two of one cell, one of which writes, keep their order. -/
theorem Same.up {l m : List Access} (h : Same l m) {i k p q : Nat} {a b : Access} (hp : To l m i p) (hq : To l m k q) (ha : l[i]? = some a) (hb : l[k]? = some b) (hik : i < k) (hc : a.cell = b.cell) (hw : a.write = true ∨ b.write = true) : p < q := by
  by_cases e : a.who = b.who
  · obtain ⟨h1, h2⟩ := hp.left ha
    obtain ⟨h3, h4⟩ := hq.left hb
    have h5 := occ_hit ha rfl
    have h6 := occ_mono l a.who (show i + 1 ≤ k by omega)
    rw [← e] at h4
    apply Classical.byContradiction
    intro hn
    have h7 := occ_mono m a.who (show q ≤ p by omega)
    omega
  · exact h.keep hp hq ha hb hik hc hw e
theorem Same.down {l m : List Access} (h : Same l m) {i k p q : Nat} {a b : Access} (hp : To l m i p) (hq : To l m k q) (ha : l[i]? = some a) (hb : l[k]? = some b) (hpq : p < q) (hc : a.cell = b.cell) (hw : a.write = true ∨ b.write = true) : i < k := by
  apply Classical.byContradiction
  intro hn
  by_cases e : i = k
  · subst e; have := hp.fn hq; omega
  · have := h.up hq hp hb ha (by omega) hc.symm (hw.symm); omega

/-- Where the last write of a cell stands. -/
theorem wb_spec (l : List Access) (cell : Int) : ∀ k : Nat, k ≤ l.length → (wb l cell k = -1 ∧ ∀ p a, p < k → l[p]? = some a → ¬ (a.write = true ∧ a.cell = cell)) ∨ ∃ (p : Nat) (a : Access), wb l cell k = p ∧ p < k ∧ l[p]? = some a ∧ a.write = true ∧ a.cell = cell ∧ ∀ q b, p < q → q < k → l[q]? = some b → ¬ (b.write = true ∧ b.cell = cell)
  | 0, _ => .inl ⟨rfl, fun p a h => absurd h (Nat.not_lt_zero _)⟩
  | k + 1, hk => by
    have hx : l[k]? = some l[k] := List.getElem?_eq_getElem (by omega)
    by_cases hw : (l[k]).write = true ∧ (l[k]).cell = cell
    · exact .inr ⟨k, _, wb_hit hx hw.1 hw.2, by omega, hx, hw.1, hw.2, fun q b h1 h2 => by omega⟩
    · rw [wb_miss hx hw]
      rcases wb_spec l cell k (by omega) with ⟨h1, h2⟩ | ⟨p, a, h1, h2, h3, h4, h5, h6⟩
      · refine .inl ⟨h1, fun p a hp ha => ?_⟩
        by_cases e : p = k
        · subst e; rw [hx] at ha; injection ha with ha; subst ha; exact hw
        · exact h2 p a (by omega) ha
      · refine .inr ⟨p, a, h1, by omega, h3, h4, h5, fun q b hq hqk hb => ?_⟩
        by_cases e : q = k
        · subst e; rw [hx] at hb; injection hb with hb; subst hb; exact hw
        · exact h6 q b hq (by omega) hb
theorem wb_none {l : List Access} {cell : Int} {k : Nat} (hk : k ≤ l.length) (h : ∀ p a, p < k → l[p]? = some a → ¬ (a.write = true ∧ a.cell = cell)) : wb l cell k = -1 := by
  rcases wb_spec l cell k hk with ⟨h1, _⟩ | ⟨p, a, _, h2, h3, h4, h5, _⟩
  · exact h1
  · exact absurd ⟨h4, h5⟩ (h p a h2 h3)
theorem wb_some {l : List Access} {cell : Int} {k p : Nat} {a : Access} (hk : k ≤ l.length) (hp : p < k) (ha : l[p]? = some a) (hw : a.write = true) (hc : a.cell = cell) (h : ∀ q b, p < q → q < k → l[q]? = some b → ¬ (b.write = true ∧ b.cell = cell)) : wb l cell k = p := by
  rcases wb_spec l cell k hk with ⟨_, h2⟩ | ⟨q, b, h1, h2, h3, h4, h5, h6⟩
  · exact absurd ⟨hw, hc⟩ (h2 p a hp ha)
  · rw [h1]
    by_cases e1 : p < q
    · exact absurd ⟨h4, h5⟩ (h q b e1 h2 h3)
    · by_cases e2 : q < p
      · exact absurd ⟨hw, hc⟩ (h6 p a e2 hp ha)
      · omega
theorem get_of_lt {α : Type} {l : List α} {i : Nat} (h : i < l.length) : ∃ a, l[i]? = some a := ⟨_, List.getElem?_eq_getElem h⟩
theorem lt_of_get {α : Type} {l : List α} {i : Nat} {a : α} (h : l[i]? = some a) : i < l.length := (List.getElem?_eq_some_iff.1 h).1
/-- Each reads from whom it read. -/
theorem Same.rd {l m : List Access} (h : Same l m) {i j : Nat} (hij : To l m i j) : (Ytheclckjgjaecaa.rd l i < 0 ∧ Ytheclckjgjaecaa.rd m j = Ytheclckjgjaecaa.rd l i) ∨ ∃ p q : Nat, Ytheclckjgjaecaa.rd l i = p ∧ p < i ∧ To l m p q ∧ Ytheclckjgjaecaa.rd m j = q := by
  obtain ⟨a, hi, hj, hocc⟩ := hij
  have hij : To l m i j := ⟨a, hi, hj, hocc⟩
  cases hw : a.write
  · rw [rd_r hi hw, rd_r hj hw]
    rcases wb_spec l a.cell i (by have := lt_of_get hi; omega) with ⟨h1, h2⟩ | ⟨p, b, h1, h2, h3, h4, h5, h6⟩
    · rw [h1]
      refine .inl ⟨by omega, wb_none (by have := lt_of_get hj; omega) fun q c hq hc hcw => ?_⟩
      obtain ⟨k, hk⟩ := h.back hc
      have hkl := (hk.right hc).1
      exact h2 k c (h.down hk hij hkl hi hq hcw.2 (.inl hcw.1)) hkl hcw
    · obtain ⟨q, hq⟩ := h.there h3
      obtain ⟨hqm, _⟩ := hq.left h3
      refine .inr ⟨p, q, h1, h2, hq, wb_some (by have := lt_of_get hj; omega) (h.up hq hij h3 hi h2 h5 (.inl h4)) hqm h4 h5 fun r c h7 h8 hc hcw => ?_⟩
      obtain ⟨k, hk⟩ := h.back hc
      have hkl := (hk.right hc).1
      exact h6 k c (h.down hq hk h3 hkl h7 (h5.trans hcw.2.symm) (.inl h4)) (h.down hk hij hkl hi h8 hcw.2 (.inl hcw.1)) hkl hcw
  · rw [rd_w hi hw, rd_w hj hw]
    exact .inl ⟨by omega, rfl⟩
/-- The last writers are the same. -/
theorem Same.lw {l m : List Access} (h : Same l m) (cell : Int) : Ytheclckjgjaecaa.lw m cell m.length = Ytheclckjgjaecaa.lw l cell l.length := by
  rcases wb_spec l cell l.length (Nat.le_refl _) with ⟨h1, h2⟩ | ⟨p, b, h1, h2, h3, h4, h5, h6⟩
  · have h7 : wb m cell m.length = -1 := wb_none (Nat.le_refl _) fun q c hq hc hcw => by
      obtain ⟨k, hk⟩ := h.back hc
      have hkl := (hk.right hc).1
      exact h2 k c (lt_of_get hkl) hkl hcw
    rcases lw_wb l cell l.length (Nat.le_refl _) with ⟨_, e1⟩ | ⟨i, a, e1, e2, _⟩
    · rcases lw_wb m cell m.length (Nat.le_refl _) with ⟨_, e2⟩ | ⟨i, a, e2, e3, _⟩
      · rw [e1, e2]
      · omega
    · omega
  · obtain ⟨q, hq⟩ := h.there h3
    obtain ⟨hqm, _⟩ := hq.left h3
    have h7 : wb m cell m.length = q := wb_some (Nat.le_refl _) (lt_of_get hqm) hqm h4 h5 fun r c h7 h8 hc hcw => by
      obtain ⟨k, hk⟩ := h.back hc
      have hkl := (hk.right hc).1
      exact h6 k c (h.down hq hk h3 hkl h7 (h5.trans hcw.2.symm) (.inl h4)) (lt_of_get hkl) hkl hcw
    rcases lw_wb l cell l.length (Nat.le_refl _) with ⟨e1, _⟩ | ⟨i, a, e1, e2, e3, e4⟩
    · omega
    rcases lw_wb m cell m.length (Nat.le_refl _) with ⟨e5, _⟩ | ⟨k, c, e5, e6, e7, e8⟩
    · omega
    obtain rfl : i = p := by omega
    obtain rfl : k = q := by omega
    rw [h3] at e3
    rw [hqm] at e7
    injection e3 with e3
    injection e7 with e7
    subst e3 e7
    rw [e4, e8]

/-! ### In the order of the graph -/
theorem ofWho_all (l : List Access) (x : Int) : ofWho l x l.length = l.filter fun a => decide (a.who = x) := by
  unfold ofWho; rw [List.take_length]
theorem filter_ofWho (l : List Access) (x y : Int) : (ofWho l y l.length).filter (fun a => decide (a.who = x)) = if y = x then ofWho l x l.length else [] := by
  rw [ofWho_all, ofWho_all, List.filter_filter]
  by_cases e : y = x
  · subst e; rw [if_pos rfl]; congr 1; funext a; simp
  · rw [if_neg e]
    apply List.filter_eq_nil_iff.2
    intro a _
    simp
    intro h1 h2
    exact e (by rw [← h2, h1])
theorem flat_once (l : List Access) (x : Int) : ∀ (ord : List Int), ord.Nodup → x ∈ ord → (ord.flatMap fun y => ofWho l y l.length).filter (fun a => decide (a.who = x)) = ofWho l x l.length := by
  have none_ : ∀ (ord : List Int), ¬ x ∈ ord → (ord.flatMap fun y => ofWho l y l.length).filter (fun a => decide (a.who = x)) = [] := by
    intro ord
    induction ord with
    | nil => intro _; rfl
    | cons y ord ih =>
      intro hn
      rw [List.flatMap_cons, List.filter_append, filter_ofWho, if_neg (fun e => hn (by rw [e]; exact List.mem_cons_self ..)), List.nil_append]
      exact ih fun h => hn (List.mem_cons_of_mem _ h)
  intro ord
  induction ord with
  | nil => intro _ h; cases h
  | cons y ord ih =>
    intro hn hx
    rw [List.nodup_cons] at hn
    rw [List.flatMap_cons, List.filter_append, filter_ofWho]
    by_cases e : y = x
    · subst e
      rw [if_pos rfl, none_ ord hn.1, List.append_nil]
    · rw [if_neg e, List.nil_append]
      exact ih hn.2 (by rcases List.mem_cons.1 hx with h | h; exact absurd h.symm e; exact h)
theorem none_who {l : List Access} {x : Int} (h : ∀ a ∈ l, a.who ≠ x) : ofWho l x l.length = [] := by
  rw [ofWho_all]
  apply List.filter_eq_nil_iff.2
  intro a ha
  simpa using h a ha
/-- The elements of one stand in one block. -/
theorem block_of (l : List Access) (ord : List Int) {j : Nat} {a : Access} : ∀ {k : Nat}, k ≤ ord.length → (inTo l ord k)[j]? = some a → ∃ p, p < k ∧ ord[p]? = some a.who ∧ (inTo l ord p).length ≤ j ∧ j < (inTo l ord (p + 1)).length
  | 0, _, h => by simp [inTo] at h
  | k + 1, hk, h => by
    have hx : ord[k]? = some ord[k] := List.getElem?_eq_getElem (by omega)
    have hs := inTo_succ (l := l) hx
    by_cases hj : j < (inTo l ord k).length
    · rw [hs, List.getElem?_append_left hj] at h
      obtain ⟨p, h1, h2⟩ := block_of l ord (by omega) h
      exact ⟨p, by omega, h2⟩
    · have hjl := lt_of_get h
      rw [hs, List.getElem?_append_right (by omega)] at h
      have hm := List.mem_of_getElem? h
      rw [ofWho_all] at hm
      have hw : a.who = ord[k] := by simpa using (List.mem_filter.1 hm).2
      exact ⟨k, by omega, by rw [hx, hw], by omega, hjl⟩
theorem inTo_mono (l : List Access) (ord : List Int) {i : Nat} : ∀ {k : Nat}, i ≤ k → (inTo l ord i).length ≤ (inTo l ord k).length
  | 0, h => by rw [show i = 0 by omega]; exact Nat.le_refl _
  | k + 1, h => by
    by_cases e : i = k + 1
    · rw [e]; exact Nat.le_refl _
    · refine Nat.le_trans (inTo_mono l ord (show i ≤ k by omega)) ?_
      cases hx : ord[k]? with
      | none =>
        have h2 : inTo l ord (k + 1) = inTo l ord k := by rw [inTo, List.take_add_one, hx]; simp [inTo]
        rw [h2]; exact Nat.le_refl _
      | some x => rw [inTo_succ hx, List.length_append]; omega
theorem mem_edges {l : List Access} (ho : accOk l = true) {i k : Nat} {a b : Access} (ha : l[i]? = some a) (hb : l[k]? = some b) (hik : i < k) (he : EdgeOf a b a.who b.who) : (⟨a.who, b.who⟩ : Edge) ∈ edges l := by
  have h1 := ((dec_true ho).2 i (lt_of_get ha) a ha).1
  have h2 := ((dec_true ho).2 k (lt_of_get hb) b hb).1
  obtain ⟨x, hx⟩ : ∃ x : Nat, a.who = (x : Int) := ⟨a.who.toNat, by omega⟩
  obtain ⟨y, hy⟩ : ∃ y : Nat, b.who = (y : Int) := ⟨b.who.toNat, by omega⟩
  rw [edges_yes ho, hx, hy]
  unfold edTo
  refine List.mem_flatMap.2 ⟨x, List.mem_range.2 (by omega), ?_⟩
  unfold rowTo
  refine List.mem_map.2 ⟨y, List.mem_filter.2 ⟨List.mem_range.2 (by omega), ?_⟩, rfl⟩
  rw [hx, hy] at he
  exact dec_yes ⟨i, k, a, b, .inl (lt_of_get ha), hik, ha, hb, he⟩
theorem sum_who (l : List Access) (h : ∀ a ∈ l, 0 ≤ a.who ∧ a.who ≤ 8) : l.length = (ofWho l 0 l.length).length + (ofWho l 1 l.length).length + (ofWho l 2 l.length).length + (ofWho l 3 l.length).length + (ofWho l 4 l.length).length + (ofWho l 5 l.length).length + (ofWho l 6 l.length).length + (ofWho l 7 l.length).length + (ofWho l 8 l.length).length := by
  simp only [ofWho_all]
  induction l with
  | nil => rfl
  | cons a l ih =>
    have h1 := ih fun b hb => h b (List.mem_cons_of_mem _ hb)
    have h2 := h a (List.mem_cons_self ..)
    have h3 : a.who = 0 ∨ a.who = 1 ∨ a.who = 2 ∨ a.who = 3 ∨ a.who = 4 ∨ a.who = 5 ∨ a.who = 6 ∨ a.who = 7 ∨ a.who = 8 := by omega
    rcases h3 with e | e | e | e | e | e | e | e | e <;> simp [e] <;> omega
theorem cfree_order {l : List Access} (hc : (topoOf 9 (edges l)).length = 9) : ∃ ord, topoOf 9 (edges l) = ord ∧ tp (edges l) 9 9 = some ord ∧ AllTo (Edge.ok 9) (edges l) (edges l).length := by
  by_cases h : ((0 : Int) ≤ (9 : Nat) ∧ ((9 : Nat) : Int) ≤ 9) ∧ (edges l).length ≤ 81 ∧ AllTo (Edge.ok ((9 : Nat) : Int)) (edges l) (edges l).length
  · have h1 := topo_yes (N := 9) h
    have h2 : topoOf 9 (edges l) = (tp (edges l) 9 9).getD [] := h1
    cases ht : tp (edges l) 9 9 with
    | none => rw [h2, ht] at hc; simp at hc
    | some o => rw [ht] at h2; exact ⟨o, h2, rfl, h.2.2⟩
  · have h1 := topo_no h
    have h2 : topoOf 9 (edges l) = [] := h1
    rw [h2] at hc
    simp at hc
/-- In the order of the graph: what is asked. -/
theorem same_inord {l : List Access} (ho : accOk l = true) (hc : (topoOf 9 (edges l)).length = 9) : Same l (inord l (topoOf 9 (edges l))) ∧ (inord l (topoOf 9 (edges l))).length = l.length ∧ accOk (inord l (topoOf 9 (edges l))) = true := by
  obtain ⟨ord, h1, h2, h3⟩ := cfree_order hc
  rw [h1] at hc ⊢
  rw [inord_yes ho (by omega)]
  obtain ⟨hn, hr⟩ := nodup_of_free h2
  have hfull := nodup_full 9 ord hn hr hc
  have hflat : inTo l ord ord.length = ord.flatMap fun y => ofWho l y l.length := by unfold inTo; rw [List.take_length]
  have hmem : ∀ a ∈ inTo l ord ord.length, a ∈ l := by
    intro a ha
    rw [hflat] at ha
    obtain ⟨y, _, hy⟩ := List.mem_flatMap.1 ha
    rw [ofWho_all] at hy
    exact (List.mem_filter.1 hy).1
  have hw : ∀ a ∈ l, 0 ≤ a.who ∧ a.who ≤ 8 := by
    intro a ha
    obtain ⟨i, hi⟩ := List.mem_iff_getElem?.1 ha
    exact ((dec_true ho).2 i (lt_of_get hi) a hi).1
  have hwho : ∀ x, ofWho (inTo l ord ord.length) x (inTo l ord ord.length).length = ofWho l x l.length := by
    intro x
    by_cases hx : 0 ≤ x ∧ x ≤ 8
    · rw [ofWho_all (inTo l ord ord.length), hflat]
      exact flat_once l x ord hn (hfull x hx.1 (by show x < ((9 : Nat) : Int); omega))
    · rw [none_who (l := l) fun a ha e => hx (by rw [← e]; exact hw a ha), none_who fun a ha e => hx (by rw [← e]; exact hw a (hmem a ha))]
  have hlen : (inTo l ord ord.length).length = l.length := by
    rw [sum_who l hw, sum_who (inTo l ord ord.length) fun a ha => hw a (hmem a ha)]
    simp only [hwho]
  refine ⟨⟨hwho, ?_⟩, hlen, dec_yes ⟨by rw [hlen]; exact accOk_len ho, fun j hj a ha => ?_⟩⟩
  · intro i k p q a b hp hq ha hb hik hcell hwr hne
    obtain ⟨hpm, _⟩ := hp.left ha
    obtain ⟨hqm, _⟩ := hq.left hb
    obtain ⟨u, u1, u2, u3, u4⟩ := block_of l ord (Nat.le_refl _) hpm
    obtain ⟨v, v1, v2, v3, v4⟩ := block_of l ord (Nat.le_refl _) hqm
    have he := mem_edges ho ha hb hik ⟨hne, rfl, rfl, hcell, hwr⟩
    obtain ⟨n, hne2⟩ := List.mem_iff_getElem?.1 he
    have hek := h3 n (lt_of_get hne2) _ hne2
    obtain ⟨u', v', huv, hv9, hu', hv'⟩ := tp_edge h2 he hek.2.1 (by have := hek.2.2; show _ < ((9 : Nat) : Int); omega)
    have hpw := List.pairwise_iff_getElem.1 (List.nodup_iff_pairwise_ne.1 hn)
    have huniq : ∀ {s t : Nat} {x : Int}, ord[s]? = some x → ord[t]? = some x → s = t := by
      intro s t x hs ht
      obtain ⟨s1, s2⟩ := List.getElem?_eq_some_iff.1 hs
      obtain ⟨t1, t2⟩ := List.getElem?_eq_some_iff.1 ht
      by_cases e1 : s < t
      · exact absurd (s2.trans t2.symm) (hpw s t s1 t1 e1)
      · by_cases e2 : t < s
        · exact absurd (t2.trans s2.symm) (hpw t s t1 s1 e2)
        · omega
    obtain rfl := huniq u2 hu'
    obtain rfl := huniq v2 hv'
    have := inTo_mono l ord (show u + 1 ≤ v by omega)
    omega
  · obtain ⟨i, hi⟩ := List.mem_iff_getElem?.1 (hmem a (List.mem_of_getElem? ha))
    exact (dec_true ho).2 i (lt_of_get hi) a hi
end Go.Proofs.Ytheclckjgjaecaa
