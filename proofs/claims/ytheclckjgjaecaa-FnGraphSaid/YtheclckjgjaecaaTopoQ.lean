/- Topo: what its answer is worth (plain). No condition. -/
import Derived.Test.YtheclckjgjaecaaTopoP
namespace Go.Proofs.Ytheclckjgjaecaa
open Go.RowKit Go.Deep

theorem nxTo_good {l : List Edge} {out : List Int} {N : Nat} : ∀ {m : Nat}, m ≤ N → 0 ≤ nxTo l out N m → freeV l out (nxTo l out N m) = true := by
  intro m
  induction m with
  | zero => intro _ h; exact absurd h (by show ¬ 0 ≤ (-1 : Int); omega)
  | succ m ih =>
    intro hm h
    cases hf : freeV l out ((N : Int) - 1 - (m : Int))
    · rw [nxTo_busy hf] at h ⊢; exact ih (by omega) h
    · rw [nxTo_free hf]; exact hf
theorem nxTo_finds {l : List Edge} {out : List Int} {N : Nat} {v : Int} (hv : freeV l out v = true) (_h0 : 0 ≤ v) : ∀ {m : Nat}, m ≤ N → (N : Int) - m ≤ v → v < N → 0 ≤ nxTo l out N m := by
  intro m
  induction m with
  | zero => intro _ h1 h2; omega
  | succ m ih =>
    intro hm h1 h2
    cases hf : freeV l out ((N : Int) - 1 - (m : Int))
    · rw [nxTo_busy hf]
      refine ih (by omega) ?_ h2
      by_cases e : v = (N : Int) - 1 - (m : Int)
      · rw [← e, hv] at hf; cases hf
      · omega
    · rw [nxTo_free hf]; omega
/-- Each that is in the order was free when it came. -/
theorem tp_free {l : List Edge} {N : Nat} : ∀ {k : Nat} {out : List Int}, tp l N k = some out → out.length = k ∧ ∀ j, j < k → ∃ v, out[j]? = some v ∧ freeV l (out.take j) v = true ∧ 0 ≤ v ∧ v < N := by
  intro k
  induction k with
  | zero => intro out h; simp [tp] at h; subst h; exact ⟨rfl, fun j hj => absurd hj (Nat.not_lt_zero _)⟩
  | succ k ih =>
    intro out h
    unfold tp at h
    split at h
    · cases h
    · rename_i o ho
      obtain ⟨hl, hj⟩ := ih ho
      split at h
      · cases h
      · rename_i hx
        injection h with h
        subst h
        refine ⟨by rw [List.length_append, hl]; rfl, fun j hjk => ?_⟩
        by_cases e : j = k
        · subst e
          refine ⟨nxTo l o N N, by rw [List.getElem?_append_right (by omega), hl]; simp, ?_, by omega, (nxTo_range l o N N (Nat.le_refl _)).2⟩
          rw [List.take_append_of_le_length (by omega), List.take_of_length_le (by omega)]
          exact nxTo_good (Nat.le_refl _) (by omega)
        · obtain ⟨v, h1, h2, h3⟩ := hj j (by omega)
          refine ⟨v, by rw [List.getElem?_append_left (by omega)]; exact h1, ?_, h3⟩
          rw [List.take_append_of_le_length (by omega)]
          exact h2
/-- Some number below N is not in a short list. -/
theorem missing (N : Nat) : ∀ (out : List Int), out.length < N → ∃ v : Nat, v < N ∧ ¬ (v : Int) ∈ out := by
  induction N with
  | zero => intro out h; omega
  | succ N ih =>
    intro out h
    by_cases hm : ((N : Nat) : Int) ∈ out
    · obtain ⟨v, h1, h2⟩ := ih (out.erase (N : Int)) (by rw [List.length_erase_of_mem hm]; have := List.length_pos_of_mem hm; omega)
      refine ⟨v, by omega, fun h3 => h2 ?_⟩
      exact (List.mem_erase_of_ne (by omega)).2 h3
    · exact ⟨N, by omega, hm⟩
theorem least {p : Nat → Prop} {N : Nat} (h : ∃ v, v < N ∧ p v) : ∃ v, v < N ∧ p v ∧ ∀ u, u < v → ¬ p u := by
  obtain ⟨v, hv⟩ := h
  induction v using Nat.strongRecOn with
  | _ v ih =>
    by_cases hx : ∃ u, u < v ∧ p u
    · obtain ⟨u, hu, hp⟩ := hx
      exact ih u hu ⟨by omega, hp⟩
    · exact ⟨v, hv.1, hv.2, fun u hu hp => hx ⟨u, hu, hp⟩⟩
/-- Forward edges let one go at each step. -/
theorem tp_some {l : List Edge} {N : Nat} (hf : ∀ e ∈ l, 0 ≤ e.from_ ∧ e.from_ < e.to_) : ∀ k, k ≤ N → ∃ out, tp l N k = some out := by
  intro k
  induction k with
  | zero => intro _; exact ⟨[], rfl⟩
  | succ k ih =>
    intro hk
    obtain ⟨out, ho⟩ := ih (by omega)
    have hl := (tp_free ho).1
    obtain ⟨v, hvN, hv, hmin⟩ := least (p := fun v : Nat => ¬ (v : Int) ∈ out) (missing N out (by omega))
    have hfree : freeV l out (v : Int) = true := by
      refine dec_yes ⟨fun i hi e he => ?_, hv⟩
      intro h
      have h1 := hf e (List.mem_iff_getElem?.2 ⟨i, he⟩)
      have h2 := hmin e.from_.toNat (by have := h.1; omega)
      apply h2
      rw [show ((e.from_.toNat : Nat) : Int) = e.from_ by omega]
      exact h.2
    have h0 := nxTo_finds (N := N) hfree (by omega) (Nat.le_refl N) (by omega) (by omega)
    exact ⟨_, tp_next ho (by omega)⟩
theorem nodup_le : ∀ (N : Nat) (out : List Int), out.Nodup → (∀ x ∈ out, 0 ≤ x ∧ x < N) → out.length ≤ N := by
  intro N
  induction N with
  | zero =>
    intro out _ h
    cases out with
    | nil => exact Nat.le_refl _
    | cons a l => have := h a (List.mem_cons_self ..); omega
  | succ N ih =>
    intro out hn h
    by_cases hm : ((N : Nat) : Int) ∈ out
    · have h1 := ih (out.erase (N : Int)) (hn.erase _) (fun x hx => by
        have h2 := h x (List.mem_of_mem_erase hx)
        have h3 : x ≠ (N : Int) := fun e => by subst e; exact (List.Nodup.mem_erase_iff hn).1 hx |>.1 rfl
        omega)
      rw [List.length_erase_of_mem hm] at h1
      omega
    · have h1 := ih out hn (fun x hx => by
        have h2 := h x hx
        have h3 : x ≠ (N : Int) := fun e => hm (e ▸ hx)
        omega)
      omega
theorem nodup_full : ∀ (N : Nat) (out : List Int), out.Nodup → (∀ x ∈ out, 0 ≤ x ∧ x < N) → out.length = N → ∀ v : Int, 0 ≤ v → v < N → v ∈ out := by
  intro N
  induction N with
  | zero => intro out _ _ _ v h0 h1; omega
  | succ N ih =>
    intro out hn h hl v h0 h1
    by_cases hm : ((N : Nat) : Int) ∈ out
    · by_cases e : v = (N : Int)
      · rw [e]; exact hm
      · refine List.mem_of_mem_erase (ih (out.erase (N : Int)) (hn.erase _) (fun x hx => ?_) (by rw [List.length_erase_of_mem hm]; omega) v h0 (by omega))
        have h2 := h x (List.mem_of_mem_erase hx)
        have h3 : x ≠ (N : Int) := fun e => by subst e; exact (List.Nodup.mem_erase_iff hn).1 hx |>.1 rfl
        omega
    · have h2 := nodup_le N out hn (fun x hx => by
        have h2 := h x hx
        have h3 : x ≠ (N : Int) := fun e => hm (e ▸ hx)
        omega)
      omega
theorem nodup_of_free {l : List Edge} {N k : Nat} {out : List Int} (h : tp l N k = some out) : out.Nodup ∧ ∀ x ∈ out, 0 ≤ x ∧ x < N := by
  obtain ⟨hl, hj⟩ := tp_free h
  constructor
  · rw [List.nodup_iff_pairwise_ne, List.pairwise_iff_getElem]
    intro i j hi hj2 hij e
    obtain ⟨v, h1, h2, _⟩ := hj j (by omega)
    have hv : out[j] = v := (List.getElem?_eq_some_iff.1 h1).2
    have h3 := (dec_true h2).2
    apply h3
    rw [← hv, ← e]
    exact List.mem_iff_getElem?.2 ⟨i, by rw [List.getElem?_take, if_pos hij]; exact List.getElem?_eq_getElem hi⟩
  · intro x hx
    obtain ⟨i, hi⟩ := List.mem_iff_getElem?.1 hx
    obtain ⟨v, h1, _, h3, h4⟩ := hj i (by have := (List.getElem?_eq_some_iff.1 hi).1; omega)
    rw [hi] at h1
    injection h1 with h1
    subst h1
    exact ⟨h3, h4⟩
/-- In a whole order each edge's tail stands ahead of its head. -/
theorem tp_edge {l : List Edge} {N : Nat} {out : List Int} (h : tp l N N = some out) {e : Edge} (he : e ∈ l) (ht0 : 0 ≤ e.to_) (ht1 : e.to_ < N) : ∃ i j, i < j ∧ j < N ∧ out[i]? = some e.from_ ∧ out[j]? = some e.to_ := by
  obtain ⟨hl, hj⟩ := tp_free h
  obtain ⟨hn, hr⟩ := nodup_of_free h
  obtain ⟨j, hjt⟩ := List.mem_iff_getElem?.1 (nodup_full N out hn hr hl e.to_ ht0 ht1)
  have hjN : j < N := by have := (List.getElem?_eq_some_iff.1 hjt).1; omega
  obtain ⟨v, h1, h2, _⟩ := hj j hjN
  rw [hjt] at h1
  injection h1 with h1
  subst h1
  obtain ⟨m, hm⟩ := List.mem_iff_getElem?.1 he
  have h3 := (dec_true h2).1 m (List.getElem?_eq_some_iff.1 hm).1 e hm
  have h4 : e.from_ ∈ out.take j := Classical.byContradiction fun q => h3 ⟨rfl, q⟩
  obtain ⟨i, hi⟩ := List.mem_iff_getElem?.1 h4
  have hij : i < j := by have := (List.getElem?_eq_some_iff.1 hi).1; rw [List.length_take] at this; omega
  rw [List.getElem?_take, if_pos hij] at hi
  exact ⟨i, j, hij, hjN, hi, hjt⟩
end Go.Proofs.Ytheclckjgjaecaa
