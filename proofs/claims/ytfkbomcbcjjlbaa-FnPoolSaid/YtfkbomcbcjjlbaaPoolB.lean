/- The pool: bounds; what a worker takes and the step. No condition. -/
import Derived.Test.YtfkbomcbcjjlbaaPoolG
namespace Go.Proofs.Ytfkbomcbcjjlbaa
open Go.RowKit Go.Deep
set_option linter.unusedSimpArgs false
set_option linter.unusedVariables false

theorem tot_le_n {f : Nat → Nat} : ∀ {n : Nat}, (∀ i, i < n → f i ≤ 1) → tot f n ≤ n
  | 0, _ => Nat.le_refl _
  | n + 1, h => by rw [tot]; have := tot_le_n (f := f) (n := n) fun i hi => h i (by omega); have := h n (by omega); omega
section
variable {ps : List Int} {wk : Nat} {p : Pool}
theorem PInv.ran_len {lo : Int} (h : PInv ps wk lo p) : p.ran_.length ≤ ps.length := by
  rw [len_tot ps.length p.ran_ h.rr]
  exact tot_le_n fun i hi => by rw [h.rc i hi]; split <;> omega
theorem PInv.end_len {lo : Int} (h : PInv ps wk lo p) : p.ended_.length ≤ ps.length := by
  rw [len_tot ps.length p.ended_ h.er]
  exact tot_le_n fun i hi => by rw [h.ec i hi]; split <;> omega
theorem PInv.qk_len {lo : Int} (h : PInv ps wk lo p) {q : Nat} (hq : q < wk) : (qk p q).length ≤ ps.length := by
  rw [len_tot ps.length (qk p q) (h.qr q)]
  refine tot_le_n fun i hi => ?_
  have h1 := tot_le (f := fun q => (qk p q).count (i : Int)) hq
  have h2 := h.qc i hi
  split at h2 <;> omega
theorem PInv.q_len {lo : Int} (h : PInv ps wk lo p) {o : Order} (ho : o ∈ p.queues_) : o.kids_.length ≤ ps.length := by
  obtain ⟨q, hq⟩ := List.mem_iff_getElem?.1 ho
  have hl := (List.getElem?_eq_some_iff.1 hq).1
  have := h.qk_len (q := q) (by rw [← h.lq]; exact hl)
  rw [qk_at hq] at this
  exact this
theorem PInv.left_le {lo : Int} (h : PInv ps wk lo p) {i : Nat} (hi : i < ps.length) : 0 ≤ gi p.left_ i ∧ gi p.left_ i ≤ ps.length := by
  rw [h.lf i hi]
  have := tot_le_n (f := childs ps p i) (n := ps.length) fun j hj => by unfold childs; split <;> omega
  omega
theorem kids_len20 (hok : tasksOk ps = true) (t : Int) : (kids ps t).length ≤ 20 := Nat.le_trans (kids_le ps t) (task_len hok)
theorem pgot_step (hok : tasksOk ps = true) (h : PInv ps wk (-1) p) {w : Nat} (hw : w < wk) (c : gi p.cur_ w < 0) (v : Int) :
    ∃ Q t, pgot p w v = ({ p with queues_ := Q }, t) ∧ ((t = -1 ∧ pstep ps p w v = { p with queues_ := Q }) ∨ ∃ U : Nat, t = U ∧ U < ps.length ∧ pstep ps p w v = { p with queues_ := Q, cur_ := p.cur_.set w U, state_ := p.state_.set U 2, ran_ := p.ran_ ++ [(U : Int)] }) := by
  unfold pgot pstep
  rw [if_neg (show ¬ 0 ≤ gi p.cur_ w by omega)]
  by_cases c1 : 0 < (qk p w).length
  · simp only [if_pos c1]
    have hg := gi_get (l := qk p w) (i := (qk p w).length - 1) (by omega)
    have hr := h.qr w _ (List.mem_of_getElem? hg)
    obtain ⟨t, ht⟩ : ∃ t : Nat, gi (qk p w) ((qk p w).length - 1) = t := ⟨_, (Int.toNat_of_nonneg hr.1).symm⟩
    rw [ht] at hr ⊢
    exact ⟨_, _, rfl, .inr ⟨t, rfl, by omega, by unfold pstart; rw [Int.toNat_natCast]⟩⟩
  simp only [if_neg c1]
  by_cases c2 : (0 ≤ v ∧ v < p.queues_.length) ∧ 0 < (qk p v.toNat).length
  · simp only [if_pos c2]
    have hg := gi_get (l := qk p v.toNat) (i := 0) c2.2
    have hr := h.qr v.toNat _ (List.mem_of_getElem? hg)
    obtain ⟨t, ht⟩ : ∃ t : Nat, gi (qk p v.toNat) 0 = t := ⟨_, (Int.toNat_of_nonneg hr.1).symm⟩
    rw [ht] at hr ⊢
    exact ⟨_, _, rfl, .inr ⟨t, rfl, by omega, by unfold pstart; rw [Int.toNat_natCast]⟩⟩
  · simp only [if_neg c2]
    exact ⟨p.queues_, -1, rfl, .inl ⟨rfl, rfl⟩⟩
end
end Go.Proofs.Ytfkbomcbcjjlbaa
