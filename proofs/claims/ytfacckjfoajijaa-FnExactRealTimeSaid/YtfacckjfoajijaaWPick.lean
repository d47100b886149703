/- Indices of the roots that have a property. No condition. -/
import Derived.Test.YtfacckjfoajijaaWSet
import Derived.Test.YtfacckjfoajijaaWWorld
import Derived.Test.YtfacckjfoajijaaMineA
import Derived.Test.YtfacckjfoajijaaFlat
namespace Go.Proofs.Ytfacckjfoajijaa
open Go.RowKit Go.Deep
set_option linter.unusedSimpArgs false
set_option linter.unusedVariables false

/-- The indices below k of those that have the property. -/
def pickTo (p : Root → Bool) (l : List Root) : Nat → List Int
  | 0 => []
  | k + 1 => match l[k]? with
    | some r => if p r = true then pickTo p l k ++ [(k : Int)] else pickTo p l k
    | none => pickTo p l k
theorem pick_yes {p : Root → Bool} {l : List Root} {k : Nat} {r : Root} (h : l[k]? = some r) (hp : p r = true) : pickTo p l (k + 1) = pickTo p l k ++ [(k : Int)] := by simp [pickTo, h, hp]
theorem pick_no {p : Root → Bool} {l : List Root} {k : Nat} {r : Root} (h : l[k]? = some r) (hp : p r = false) : pickTo p l (k + 1) = pickTo p l k := by simp [pickTo, h, hp]
theorem pick_len (p : Root → Bool) (l : List Root) : ∀ k, (pickTo p l k).length ≤ k
  | 0 => Nat.le_refl _
  | k + 1 => by
    have ih := pick_len p l k
    rw [pickTo]
    split
    · split
      · rw [List.length_append]; simp; omega
      · omega
    · omega
theorem pick_mem {p : Root → Bool} {l : List Root} {x : Int} : ∀ {k : Nat}, x ∈ pickTo p l k ↔ ∃ (i : Nat) (r : Root), i < k ∧ x = (i : Int) ∧ l[i]? = some r ∧ p r = true
  | 0 => by simp [pickTo]
  | k + 1 => by
    have ih := pick_mem (p := p) (l := l) (x := x) (k := k)
    constructor
    · intro h
      rw [pickTo] at h
      split at h
      · rename_i r hr
        split at h
        · rename_i hp
          rcases List.mem_append.1 h with q | q
          · obtain ⟨i, s, a, b, c, d⟩ := ih.1 q
            exact ⟨i, s, by omega, b, c, d⟩
          · simp at q; exact ⟨k, r, by omega, q, hr, hp⟩
        · obtain ⟨i, s, a, b, c, d⟩ := ih.1 h
          exact ⟨i, s, by omega, b, c, d⟩
      · obtain ⟨i, s, a, b, c, d⟩ := ih.1 h
        exact ⟨i, s, by omega, b, c, d⟩
    · rintro ⟨i, r, hi, hx, hr, hp⟩
      by_cases e : i = k
      · subst e; rw [pick_yes hr hp]; exact List.mem_append_right _ (by rw [hx]; exact List.mem_singleton.2 rfl)
      · have h1 := ih.2 ⟨i, r, by omega, hx, hr, hp⟩
        rw [pickTo]
        split
        · split
          · exact List.mem_append_left _ h1
          · exact h1
        · exact h1
theorem pick_asc (p : Root → Bool) (l : List Root) : ∀ k, (pickTo p l k).Pairwise (· < ·)
  | 0 => List.Pairwise.nil
  | k + 1 => by
    have ih := pick_asc p l k
    rw [pickTo]
    split
    · split
      · rw [List.pairwise_append]
        refine ⟨ih, by simp, fun a ha b hb => ?_⟩
        obtain ⟨i, r, h1, h2, _⟩ := pick_mem.1 ha
        simp at hb; omega
      · exact ih
    · exact ih
theorem own_emptyI (w : World) : (w.alloc (.cells #[] 3)).ownsRow w.heap.size 3 1 (.slice (some ⟨w.heap.size, 0, none⟩) 0 0) 0 (ints []) :=
  World.ownsRow_lit w #[] 0 (Nat.le_refl _) (Nat.zero_le _) (by simp [ints])
theorem Root.first {w : World} {S : Nat → Prop} {row : List Value} {r : Root} (h : Root.R w S row r) : row.toArray[0]? = some (.int .i64 r.phase_) := by
  obtain ⟨A0, n0, c0, A1, n1, c1, A2, n2, c2, A3, n3, c3, A4, n4, c4, A5, n5, c5, A6, n6, c6, A7, n7, c7, A8, n8, c8, A9, n9, c9, A10, n10, c10, A11, n11, c11, A12, n12, c12, A13, n13, c13, rfl⟩ := Root.R_cells h
  rfl
theorem Root.R_one {w : World} {S : Nat → Prop} {row : List Value} {r : Root} (h : Root.R w S row r) : ∀ v ∈ row, v.oneCell' = true := by
  obtain ⟨A0, n0, c0, A1, n1, c1, A2, n2, c2, A3, n3, c3, A4, n4, c4, A5, n5, c5, A6, n6, c6, A7, n7, c7, A8, n8, c8, A9, n9, c9, A10, n10, c10, A11, n11, c11, A12, n12, c12, A13, n13, c13, rfl⟩ := Root.R_cells h
  simp [Value.oneCell']
/-- A root of the caller's: its row, where it lies. -/
theorem root_at {w : World} {S : Nat → Prop} {b o n k : Nat} {l : List Root} (h : SlR Root.R 40 w S (some ⟨b, o, none⟩) n l) (hk : k < n) : ∃ (r : Root) (row : List Value), l[k]? = some r ∧ b < w.heap.size ∧ Root.R w S row r ∧ row.length = 40 ∧ w.rangeAt b (o + k * 40) row := by
  obtain ⟨r, row, hr, hb, hrw, hc⟩ := h.at_ hk
  exact ⟨r, row, hr, hb, hrw, Root.R_good.len hrw, SlR.range Root.R_good hrw hc⟩
/-- Alive: neither idle nor done. -/
noncomputable def liveB (r : Root) : Bool := dec (r.phase_ ≠ 0 ∧ r.phase_ ≠ 8)
noncomputable def liveOf (x : GWorld) : List Int := pickTo liveB x.roots_ x.roots_.length
theorem roots_le (x : GWorld) (h : GWorld.wt x ≤ 1048576) : x.roots_.length ≤ 1048576 := by
  have h1 := wtl_len Root.wt x.roots_
  unfold GWorld.wt at h
  omega
end Go.Proofs.Ytfacckjfoajijaa
