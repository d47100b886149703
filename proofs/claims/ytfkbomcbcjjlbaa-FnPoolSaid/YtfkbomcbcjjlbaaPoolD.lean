/- The pool from its start to its end, in plain words. No condition. -/
import Derived.Test.YtfkbomcbcjjlbaaPoolP
namespace Go.Proofs.Ytfkbomcbcjjlbaa
open Go.RowKit Go.Deep

/-- The tasks without a parent among the first k. -/
def roots (ps : List Int) : Nat → List Int
  | 0 => []
  | k + 1 => if gi ps k < 0 then roots ps k ++ [(k : Int)] else roots ps k
/-- Their states. -/
def rst (ps : List Int) (k : Nat) : List Int := (List.range ps.length).map fun i => if i < k ∧ gi ps i < 0 then 1 else 0
def pinit (ps : List Int) (wk k : Nat) : Pool := ⟨⟨roots ps k⟩ :: List.replicate (wk - 1) ⟨[]⟩, List.replicate wk (-1), List.replicate ps.length 0, List.replicate ps.length 0, rst ps k, [], []⟩
theorem rst_len (ps : List Int) (k : Nat) : (rst ps k).length = ps.length := by simp [rst]
theorem rst_get {ps : List Int} {k i : Nat} (hi : i < ps.length) : gi (rst ps k) i = if i < k ∧ gi ps i < 0 then 1 else 0 := by
  apply gi_of
  simp [rst, hi]
theorem rst_hit {ps : List Int} {k : Nat} (hk : k < ps.length) (h : gi ps k < 0) : (rst ps k).set k 1 = rst ps (k + 1) := by
  apply List.ext_getElem?
  intro i
  rw [List.getElem?_set, rst_len]
  by_cases e : k = i
  · subst e
    rw [if_pos rfl, if_pos hk, gi_get (by rw [rst_len]; exact hk), rst_get hk, if_pos ⟨by omega, h⟩]
  · rw [if_neg e]
    by_cases hi : i < ps.length
    · rw [gi_get (by rw [rst_len]; exact hi), gi_get (by rw [rst_len]; exact hi), rst_get hi, rst_get hi]
      congr 1
      by_cases c : i < k ∧ gi ps i < 0
      · rw [if_pos c, if_pos ⟨by omega, c.2⟩]
      · rw [if_neg c, if_neg fun q => c ⟨by omega, q.2⟩]
    · rw [List.getElem?_eq_none (by rw [rst_len]; omega), List.getElem?_eq_none (by rw [rst_len]; omega)]
theorem rst_miss {ps : List Int} {k : Nat} (h : ¬ gi ps k < 0) : rst ps k = rst ps (k + 1) := by
  unfold rst
  apply List.map_congr_left
  intro i _
  by_cases c : i < k ∧ gi ps i < 0
  · rw [if_pos c, if_pos ⟨by omega, c.2⟩]
  · rw [if_neg c, if_neg fun q => c ⟨by
      by_cases e : i = k
      · subst e; exact absurd q.2 h
      · omega, q.2⟩]
theorem roots_count (ps : List Int) (i : Nat) : ∀ k, (roots ps k).count (i : Int) = if i < k ∧ gi ps i < 0 then 1 else 0
  | 0 => by rw [roots, if_neg (by omega)]; rfl
  | k + 1 => by
    have ih := roots_count ps i k
    rw [roots]
    by_cases e : i = k
    · subst e
      by_cases h : gi ps i < 0
      · have h1 : (if i < i + 1 ∧ gi ps i < 0 then 1 else 0) = 1 := if_pos ⟨by omega, h⟩
        have h0 : (if i < i ∧ gi ps i < 0 then 1 else 0) = 0 := if_neg fun q => by omega
        rw [if_pos h, List.count_append, ih, h0, h1]; simp
      · rw [if_neg h, ih, if_neg (fun q => h q.2), if_neg (fun q => h q.2)]
    · have hb : ((k : Int) == (i : Int)) = false := by simp; omega
      have hc : (if i < k + 1 ∧ gi ps i < 0 then 1 else 0) = if i < k ∧ gi ps i < 0 then 1 else 0 := by
        by_cases c : i < k ∧ gi ps i < 0
        · rw [if_pos c, if_pos ⟨by omega, c.2⟩]
        · rw [if_neg c, if_neg fun q => c ⟨by omega, q.2⟩]
      rw [hc]
      by_cases h : gi ps k < 0
      · rw [if_pos h, List.count_append, ih, List.count_singleton, hb]; simp
      · rw [if_neg h, ih]
theorem roots_le (ps : List Int) : ∀ k, (roots ps k).length ≤ k
  | 0 => Nat.le_refl _
  | k + 1 => by
    have ih := roots_le ps k
    rw [roots]
    split
    · rw [List.length_append, List.length_singleton]; omega
    · omega
theorem roots_mem (ps : List Int) : ∀ k, ∀ x ∈ roots ps k, 0 ≤ x ∧ x < k
  | 0, x, h => by cases h
  | k + 1, x, h => by
    rw [roots] at h
    split at h
    · rcases List.mem_append.1 h with q | q
      · have := roots_mem ps k x q; omega
      · rw [List.mem_singleton.1 q]; omega
    · have := roots_mem ps k x h; omega
theorem qk_init (ps : List Int) (wk k q : Nat) : qk (pinit ps wk k) q = if q = 0 then roots ps k else [] := by
  unfold qk pinit
  cases q with
  | zero => rfl
  | succ q =>
    rw [if_neg (by omega)]
    simp only [List.getElem?_cons_succ, List.getElem?_replicate]
    split <;> rfl
theorem tot_zero {f : Nat → Nat} : ∀ {n : Nat}, (∀ i, i < n → f i = 0) → tot f n = 0
  | 0, _ => rfl
  | n + 1, h => by rw [tot, tot_zero fun i hi => h i (by omega), h n (by omega)]
theorem tot_only {f : Nat → Nat} {n : Nat} (hn : 0 < n) (h : ∀ i, i < n → i ≠ 0 → f i = 0) : tot f n = f 0 := by
  have := tot_one (f := f) (g := fun _ => 0) hn h
  have h2 : tot (fun _ => 0) n = 0 := tot_zero fun _ _ => rfl
  omega
theorem gi_rep {n i : Nat} {v : Int} (h : i < n) : gi (List.replicate n v) i = v := gi_of (by simp [h])
theorem inv_init {ps : List Int} (hok : tasksOk ps = true) {wk : Nat} (hw : 0 < wk) : PInv ps wk (-1) (pinit ps wk ps.length) := by
  have hS : ∀ i, i < ps.length → st (pinit ps wk ps.length) i = if gi ps i < 0 then 1 else 0 := fun i hi => by
    have h := rst_get (k := ps.length) hi
    unfold st pinit
    rw [h]
    by_cases c : gi ps i < 0
    · rw [if_pos ⟨hi, c⟩, if_pos c]
    · rw [if_neg fun q => c q.2, if_neg c]
  have hSle : ∀ i, i < ps.length → st (pinit ps wk ps.length) i < 2 := fun i hi => by rw [hS i hi]; split <;> omega
  refine ⟨?_, by simp [pinit], by simp [pinit], by simp [pinit], rst_len _ _, ?_, ?_, ?_, ?_, ?_, by simp [pinit], ?_, by simp [pinit], ?_, ?_, ?_, ?_, ?_, ?_, by omega, by simp [pinit]⟩
  · simp [pinit]; omega
  · intro i hi; rw [hS i hi]; split <;> omega
  · intro q x hx
    rw [qk_init] at hx
    split at hx
    · exact roots_mem ps ps.length x hx
    · cases hx
  · intro i hi
    rw [tot_only hw fun q _ hq => by rw [qk_init, if_neg hq]; rfl, qk_init, if_pos rfl, roots_count, hS i hi]
    by_cases c : gi ps i < 0
    · rw [if_pos ⟨hi, c⟩, if_pos c, if_pos rfl]
    · rw [if_neg fun q => c q.2, if_neg c, if_neg (by omega)]
  · intro v hv
    have : gi (pinit ps wk ps.length).cur_ v = -1 := gi_rep hv
    omega
  · intro i hi
    rw [tot_zero fun v hv => by
      have : gi (pinit ps wk ps.length).cur_ v = -1 := gi_rep hv
      rw [this, if_neg (by omega)], if_neg fun q => by have := hSle i hi; omega]
  · intro i hi
    rw [if_neg (by have := hSle i hi; omega)]; rfl
  · intro i hi
    rw [if_neg (by have := hSle i hi; omega)]; rfl
  · intro i hi
    have : gi (pinit ps wk ps.length).spawned_ i = 0 := gi_rep hi
    have h2 := hSle i hi
    rw [this]
    exact ⟨by omega, by omega, fun _ => rfl, by omega⟩
  · intro i hi j k hk
    obtain ⟨k', e, hkn, hpk⟩ := kid_of hk
    obtain rfl : k = k' := by omega
    have : gi (pinit ps wk ps.length).spawned_ i = 0 := gi_rep hi
    rw [this, hS k hkn, if_neg (by omega)]
    omega
  · intro i hi hr
    rw [hS i hi, if_pos hr]; decide
  · intro i hi
    have : gi (pinit ps wk ps.length).left_ i = 0 := gi_rep hi
    rw [this, tot_zero]
    · rfl
    intro k hk
    unfold childs
    rw [hS k hk]
    by_cases c : gi ps k < 0
    · rw [if_neg (by omega)]
    · rw [if_neg c, if_neg (by omega)]
  · intro i hi _
    have h2 := hSle i hi
    exact ⟨by omega, by omega⟩

/-- The picks. -/
noncomputable def ppick (ps : List Int) (wk : Nat) (p : Pool) (x : Int × Int) : Pool := if 0 ≤ x.1 ∧ x.1 ≤ (wk : Int) - 1 then pstep ps p x.1.toNat x.2 else p
noncomputable def pplay (ps : List Int) (wk : Nat) (l : List (Int × Int)) (k : Nat) : Pool := (l.take k).foldl (ppick ps wk) (pinit ps wk ps.length)
theorem pplay_succ {ps : List Int} {wk : Nat} {l : List (Int × Int)} {k : Nat} {x : Int × Int} (h : l[k]? = some x) : pplay ps wk l (k + 1) = ppick ps wk (pplay ps wk l k) x := by
  unfold pplay; rw [List.take_add_one, h, List.foldl_append]; rfl
theorem play_inv {ps : List Int} (hok : tasksOk ps = true) {wk : Nat} (hw : 0 < wk) (l : List (Int × Int)) : ∀ k, k ≤ l.length → PInv ps wk (-1) (pplay ps wk l k)
  | 0, _ => inv_init hok hw
  | k + 1, hk => by
    rw [pplay_succ (List.getElem?_eq_getElem (show k < l.length by omega))]
    unfold ppick
    split
    · exact (step_all hok (play_inv hok hw l k (by omega)) (by omega) _).1
    · exact play_inv hok hw l k (by omega)
/-- A round: each worker a step. -/
noncomputable def pround (ps : List Int) (wk : Nat) (p : Pool) : Nat → Pool
  | 0 => p
  | j + 1 => pstep ps (pround ps wk p j) j (((j : Int) + 1) % (wk : Int))
def overP (p : Pool) : Prop := ∀ i, i < p.state_.length → st p i = 4
theorem round_all {ps : List Int} (hok : tasksOk ps = true) {wk : Nat} {p : Pool} (h : PInv ps wk (-1) p) : ∀ j, j ≤ wk →
    PInv ps wk (-1) (pround ps wk p j) ∧ p.ran_ <+: (pround ps wk p j).ran_ ∧ (pround ps wk p j = p ∨ far ps p < far ps (pround ps wk p j)) ∧ ((∃ w, w < j ∧ (0 ≤ gi p.cur_ w ∨ 0 < (qk p w).length)) → far ps p < far ps (pround ps wk p j))
  | 0, _ => ⟨h, List.prefix_rfl, .inl rfl, fun ⟨w, hw, _⟩ => by omega⟩
  | j + 1, hj => by
    obtain ⟨h1, h2, h3, h4⟩ := round_all hok h j (by omega)
    obtain ⟨k1, k2, k3, k4⟩ := step_all hok h1 (show j < wk by omega) (((j : Int) + 1) % (wk : Int))
    refine ⟨k1, h2.trans k2, ?_, ?_⟩
    · show pstep ps (pround ps wk p j) j _ = p ∨ far ps p < far ps (pstep ps (pround ps wk p j) j _)
      rcases k3 with e | e
      · rw [e]; exact h3
      · rcases h3 with e2 | e2
        · rw [e2] at e ⊢; exact .inr e
        · exact .inr (by omega)
    · rintro ⟨w, hw, hc⟩
      show far ps p < far ps (pstep ps (pround ps wk p j) j _)
      have hle : far ps (pround ps wk p j) ≤ far ps (pstep ps (pround ps wk p j) j (((j : Int) + 1) % (wk : Int))) := by
        rcases k3 with e | e
        · rw [e]; exact Nat.le_refl _
        · omega
      by_cases e : w = j
      · subst e
        rcases h3 with e2 | e2
        · rw [e2] at k4 ⊢; exact k4 hc
        · omega
      · have := h4 ⟨w, by omega, hc⟩
        omega
theorem busy_one {ps : List Int} {wk : Nat} {p : Pool} (h : PInv ps wk (-1) p) {i : Nat} (hi : i < ps.length) (hs : st p i = 1 ∨ st p i = 2) : ∃ w, w < wk ∧ (0 ≤ gi p.cur_ w ∨ 0 < (qk p w).length) := by
  rcases hs with hs | hs
  · have h1 := h.qc i hi
    rw [if_pos hs] at h1
    obtain ⟨q, hq, hc⟩ := tot_pos (f := fun q => (qk p q).count (i : Int)) (n := wk) (by omega)
    exact ⟨q, hq, .inr (List.length_pos_of_mem (List.count_pos_iff.1 hc))⟩
  · have h1 := h.cc i hi
    rw [if_pos ⟨hs, by omega⟩] at h1
    obtain ⟨w, hw, hc⟩ := tot_pos (f := fun w => if gi p.cur_ w = i then 1 else 0) (n := wk) (by omega)
    refine ⟨w, hw, .inl ?_⟩
    by_cases c : gi p.cur_ w = i
    · omega
    · simp only [c, if_false] at hc; omega
theorem busy_down {ps : List Int} (hok : tasksOk ps = true) {wk : Nat} {p : Pool} (h : PInv ps wk (-1) p) : ∀ (m i : Nat), i ≤ m → i < ps.length → st p i < 3 → ∃ w, w < wk ∧ (0 ≤ gi p.cur_ w ∨ 0 < (qk p w).length) := by
  intro m
  induction m with
  | zero =>
    intro i hm hi hs
    by_cases h0 : st p i = 0
    · exact absurd h0 (h.rt i hi (by have := task_up hok hi; omega))
    · exact busy_one h hi (by have := h.rg i hi; omega)
  | succ m ih =>
    intro i hm hi hs
    by_cases h0 : st p i = 0
    · have hp : 0 ≤ gi ps i := by
        apply Classical.byContradiction
        intro q
        exact h.rt i hi (by omega) h0
      have hup := task_up hok hi
      obtain ⟨j, hj⟩ : ∃ j : Nat, gi ps i = j := ⟨(gi ps i).toNat, by omega⟩
      have hjn : j < ps.length := by omega
      obtain ⟨x, hx⟩ := kid_there hok hi hj
      have h1 := (h.ks j hjn x i hx).1 h0
      have h2 := (List.getElem?_eq_some_iff.1 hx).1
      have h3 := h.sp j hjn
      refine ih j (by omega) hjn ?_
      apply Classical.byContradiction
      intro q
      have := h3.2.2.2 (by omega)
      omega
    · exact busy_one h hi (by have := h.rg i hi; omega)
theorem busy_up {ps : List Int} (hok : tasksOk ps = true) {wk : Nat} {p : Pool} (h : PInv ps wk (-1) p) : ∀ (m i : Nat), ps.length - i ≤ m → i < ps.length → st p i ≠ 4 → ∃ w, w < wk ∧ (0 ≤ gi p.cur_ w ∨ 0 < (qk p w).length) := by
  intro m
  induction m with
  | zero => intro i hm hi; omega
  | succ m ih =>
    intro i hm hi hs
    by_cases h3 : st p i = 3
    · have h1 := (h.ed i hi (by omega)).2 h3
      rw [h.lf i hi] at h1
      obtain ⟨k, hk, hc⟩ := tot_pos (f := childs ps p i) (n := ps.length) (by omega)
      unfold childs at hc
      by_cases c : gi ps k = i ∧ 1 ≤ st p k ∧ st p k ≤ 3
      · have hup := task_up hok hk
        exact ih k (by omega) hk (by omega)
      · rw [if_neg c] at hc; omega
    · exact busy_down hok h i i (Nat.le_refl _) hi (by have := h.rg i hi; omega)
/-- Rounds until all have ended. -/
noncomputable def pdrain (ps : List Int) (wk : Nat) : Nat → Pool → Pool
  | 0, p => p
  | f + 1, p => if dec (overP p) = true then p else pdrain ps wk f (pround ps wk p wk)
noncomputable def pcount (ps : List Int) (wk : Nat) : Nat → Pool → Nat
  | 0, _ => 0
  | f + 1, p => if dec (overP p) = true then 0 else pcount ps wk f (pround ps wk p wk) + 1
theorem drain_all {ps : List Int} (hok : tasksOk ps = true) {wk : Nat} : ∀ (f : Nat) {p : Pool}, PInv ps wk (-1) p →
    PInv ps wk (-1) (pdrain ps wk f p) ∧ p.ran_ <+: (pdrain ps wk f p).ran_ ∧ (ps.length * 4 - far ps p < f → overP (pdrain ps wk f p) ∧ pcount ps wk f p ≤ ps.length * 4 - far ps p)
  | 0, p, h => ⟨h, List.prefix_rfl, fun q => by omega⟩
  | f + 1, p, h => by
    unfold pdrain pcount
    by_cases c : overP p
    · rw [dec_yes c, if_pos rfl, if_pos rfl]
      exact ⟨h, List.prefix_rfl, fun _ => ⟨c, by omega⟩⟩
    · rw [dec_no c, if_neg (by decide), if_neg (by decide)]
      obtain ⟨h1, h2, h3, h4⟩ := round_all hok h wk (Nat.le_refl _)
      obtain ⟨k1, k2, k3⟩ := drain_all hok f h1
      refine ⟨k1, h2.trans k2, fun hf => ?_⟩
      have hb : ∃ w, w < wk ∧ (0 ≤ gi p.cur_ w ∨ 0 < (qk p w).length) := by
        apply Classical.byContradiction
        intro q
        apply c
        intro i hi
        rw [h.ls] at hi
        apply Classical.byContradiction
        intro q2
        exact q (busy_up hok h _ i (Nat.le_refl _) hi q2)
      have hlt := h4 hb
      have hle := far_le h1
      obtain ⟨m1, m2⟩ := k3 (by omega)
      exact ⟨m1, by omega⟩
theorem drain_over {ps : List Int} (hok : tasksOk ps = true) {wk : Nat} {p : Pool} (h : PInv ps wk (-1) p) : overP (pdrain ps wk 200 p) ∧ pcount ps wk 200 p < 200 := by
  have hl := task_len hok
  obtain ⟨_, _, h3⟩ := drain_all hok 200 h
  obtain ⟨a, b⟩ := h3 (by omega)
  exact ⟨a, by omega⟩
theorem len_tot (n : Nat) : ∀ (l : List Int), (∀ x ∈ l, 0 ≤ x ∧ x < n) → l.length = tot (fun i => l.count (i : Int)) n := by
  intro l
  induction l with
  | nil => intro _; exact (tot_zero fun _ _ => rfl).symm
  | cons a l ih =>
    intro h
    have h1 := ih fun x hx => h x (List.mem_cons_of_mem _ hx)
    have ha := h a (List.mem_cons_self ..)
    have h2 := tot_one (f := fun i : Nat => (a :: l).count (i : Int)) (g := fun i : Nat => l.count (i : Int)) (k := a.toNat) (n := n) (by omega) fun i hi hne => by
      show (a :: l).count (i : Int) = _
      rw [List.count_cons]
      have : (a == (i : Int)) = false := by simp; omega
      rw [this]; simp
    simp only [List.count_cons] at h2
    rw [show ((a.toNat : Nat) : Int) = a by omega] at h2
    simp only [beq_self_eq_true, if_true] at h2
    rw [List.length_cons]
    simp only [List.count_cons]
    omega
/-- All has ended: who ran, who ended. -/
theorem over_lists {ps : List Int} {wk : Nat} {p : Pool} (h : PInv ps wk (-1) p) (ho : overP p) : p.ran_.length = ps.length ∧ p.ended_.length = ps.length ∧ (∀ i : Nat, i < ps.length → (i : Int) ∈ p.ran_ ∧ (i : Int) ∈ p.ended_) := by
  have hS : ∀ i, i < ps.length → st p i = 4 := fun i hi => ho i (by rw [h.ls]; exact hi)
  have hr : ∀ i : Nat, i < ps.length → p.ran_.count (i : Int) = 1 := fun i hi => by rw [h.rc i hi, if_pos (by rw [hS i hi]; decide)]
  have he : ∀ i : Nat, i < ps.length → p.ended_.count (i : Int) = 1 := fun i hi => by rw [h.ec i hi, if_pos (hS i hi)]
  have one : ∀ (f : Nat → Nat) (n : Nat), (∀ i, i < n → f i = 1) → tot f n = n := by
    intro f n
    induction n with
    | zero => intro _; rfl
    | succ n ih => intro q; rw [tot, ih fun i hi => q i (by omega), q n (by omega)]
  exact ⟨(len_tot ps.length p.ran_ h.rr).trans (one _ _ hr), (len_tot ps.length p.ended_ h.er).trans (one _ _ he), fun i hi => ⟨List.count_pos_iff.1 (by rw [hr i hi]; omega), List.count_pos_iff.1 (by rw [he i hi]; omega)⟩⟩
end Go.Proofs.Ytfkbomcbcjjlbaa
