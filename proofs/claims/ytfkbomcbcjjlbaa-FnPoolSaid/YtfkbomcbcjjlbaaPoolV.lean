/- A pool that is owned, as gen_deep's words have it. No condition. -/
import Derived.Test.YtfkbomcbcjjlbaaPoolX
namespace Go.Proofs.Ytfkbomcbcjjlbaa
open Go.RowKit Go.Deep
set_option linter.unusedSimpArgs false
set_option linter.unusedVariables false

/-- Which of the things lies in a block. -/
noncomputable def lie (rs : List Res) (g : Nat) : Nat := rs.findIdx fun r => dec (r.block = some g)
theorem lie_at {rs : List Res} (h : rs.Pairwise Res.far) {i : Nat} {r : Res} {g : Nat} (hi : rs[i]? = some r) (hg : r.block = some g) : lie rs g = i := by
  obtain ⟨hl, he⟩ := List.getElem?_eq_some_iff.1 hi
  unfold lie
  rw [List.findIdx_eq hl]
  refine ⟨by rw [he]; exact dec_yes hg, fun j hj => ?_⟩
  refine dec_no fun q => ?_
  have := List.pairwise_iff_getElem.1 h j i (by omega) hl hj g q (by rw [he]; exact hg)
  exact this
theorem Mine.ows {b w : World} {rs : List Res} (M : Mine b w rs) {i : Nat} {e : TypeId} {size n c : Nat} {A : Option Addr} {xs : List Value} (hi : rs[i]? = some (.row e size A n c xs)) :
    OwS w (fun g => (b.heap.size ≤ g ∧ g < w.heap.size) ∧ lie rs g = i) e size A n c xs :=
  ⟨own_base (M.row_at i hi) (Nat.zero_le _), fun g hg => ⟨(M.row_at i hi).lt g hg, lie_at M.far hi hg⟩⟩
theorem PoolV.W {b w : World} {vs : List Value} {p : Pool} (hw : Pool.wt p ≤ 1000) (h : PoolV b w vs p []) : Pool.W w (fun g => b.heap.size ≤ g ∧ g < w.heap.size) vs p := by
  obtain ⟨qs, H0, HC, HS, HL, HT, HR, HE, rfl, hq, M⟩ := h
  unfold Pool.wt at hw
  have l0 := M.len1 0 rfl
  have l1 := M.len1 1 rfl
  have l2 := M.len1 2 rfl
  have l3 := M.len1 3 rfl
  have l4 := M.len1 4 rfl
  have l5 := M.len1 5 rfl
  have l6 := M.len1 6 rfl
  rw [ints_length] at l1 l2 l3 l4 l5 l6
  unfold qcells at l0
  rw [List.length_map, hq] at l0
  have hql := wtl_len Order.wt p.queues_
  have hs := fun i e size n c A xs hi => Mine.ows M (i := i) (e := e) (size := size) (n := n) (c := c) (A := A) (xs := xs) hi
  generalize hrs : (_ :: _ : List Res) = rs at M hs
  have o : ∀ (i : Nat) e n c A xs, i ≤ 6 → rs[i]? = some (.row e 1 A n c xs) → OwS w (fun g => (b.heap.size ≤ g ∧ g < w.heap.size) ∧ (if lie rs g ≤ 6 then lie rs g else 0) = i) e 1 A n c xs := fun i e n c A xs hi6 hi =>
    (hs i e 1 n c A xs hi).mono fun g _ hg => ⟨hg.1, by rw [hg.2, if_pos hi6]⟩
  refine ⟨H0.1, H0.2.1, H0.2.2, HC.1, HC.2.1, HC.2.2, HS.1, HS.2.1, HS.2.2, HL.1, HL.2.1, HL.2.2, HT.1, HT.2.1, HT.2.2, HR.1, HR.2.1, HR.2.2, HE.1, HE.2.1, HE.2.2, fun g => if lie rs g ≤ 6 then lie rs g else 0, rfl, ⟨?_, by omega, ?_⟩, ⟨?_, by omega, o 1 _ _ _ _ _ (by omega) (by rw [← hrs]; rfl)⟩, ⟨?_, by omega, o 2 _ _ _ _ _ (by omega) (by rw [← hrs]; rfl)⟩, ⟨?_, by omega, o 3 _ _ _ _ _ (by omega) (by rw [← hrs]; rfl)⟩, ⟨?_, by omega, o 4 _ _ _ _ _ (by omega) (by rw [← hrs]; rfl)⟩, ⟨?_, by omega, o 5 _ _ _ _ _ (by omega) (by rw [← hrs]; rfl)⟩, ⟨?_, by omega, o 6 _ _ _ _ _ (by omega) (by rw [← hrs]; rfl)⟩⟩
  · exact M.cap 0 (by rw [← hrs]; rfl)
  · refine ⟨l0, qcells qs, fun g => if lie rs g ≤ 6 then 0 else lie rs g - 6, ?_, fun k hk x hx => ?_⟩
    · exact (hs 0 _ _ _ _ _ _ (by rw [← hrs]; rfl)).mono fun g _ hg => ⟨⟨hg.1, by show (if lie rs g ≤ 6 then lie rs g else 0) = 0; rw [hg.2]; rfl⟩, by show (if lie rs g ≤ 6 then 0 else lie rs g - 6) = 0; rw [hg.2]; rfl⟩
    · obtain ⟨t, ht⟩ : ∃ t, qs[k]? = some t := ⟨_, List.getElem?_eq_getElem (by omega)⟩
      have r := app_get (fr := ([] : List Res)) (qrows_get ht hx)
      have r2 : rs[k + 7]? = some (.row 3 1 t.1 t.2.1 t.2.2 (ints x.kids_)) := by rw [← hrs]; exact r
      have lk := M.len1 (k + 7) r2
      rw [ints_length] at lk
      have hwk := wtl_at Order.wt hx
      have hox : Order.wt x = x.kids_.length := rfl
      refine ⟨[.slice t.1 t.2.1 t.2.2], ⟨t.1, t.2.1, t.2.2, fun _ => 0, rfl, M.cap (k + 7) r2, by omega, ?_⟩, fun j hj => ?_⟩
      · refine (hs (k + 7) _ _ _ _ _ _ r2).mono fun g _ hg => ⟨⟨⟨hg.1, ?_⟩, ?_⟩, rfl⟩
        · show (if lie rs g ≤ 6 then lie rs g else 0) = 0
          rw [hg.2, if_neg (by omega)]
        · show (if lie rs g ≤ 6 then 0 else lie rs g - 6) = k + 1
          rw [hg.2, if_neg (by omega)]; omega
      · obtain rfl : j = 0 := by omega
        rw [Nat.mul_one, Nat.add_zero, qcells_get ht]; rfl
  all_goals first | exact M.cap 1 (by rw [← hrs]; rfl) | exact M.cap 2 (by rw [← hrs]; rfl) | exact M.cap 3 (by rw [← hrs]; rfl) | exact M.cap 4 (by rw [← hrs]; rfl) | exact M.cap 5 (by rw [← hrs]; rfl) | exact M.cap 6 (by rw [← hrs]; rfl)
end Go.Proofs.Ytfkbomcbcjjlbaa
