/- The pool as a machine in plain words, and what stays true of it. No condition. -/
import Derived.Test.YtfkbomcbcjjlbaaPoolO
import Derived.Test.YtfkbomcbcjjlbaaKids
namespace Go.Proofs.Ytfkbomcbcjjlbaa
open Go.RowKit Go.Deep

def gi (l : List Int) (i : Nat) : Int := (l[i]?).getD 0
theorem gi_of {l : List Int} {i : Nat} {x : Int} (h : l[i]? = some x) : gi l i = x := by unfold gi; rw [h]; rfl
theorem gi_get {l : List Int} {i : Nat} (h : i < l.length) : l[i]? = some (gi l i) := by unfold gi; rw [List.getElem?_eq_getElem h]; rfl
theorem gi_set {l : List Int} {k i : Nat} {v : Int} (hk : k < l.length) : gi (l.set k v) i = if i = k then v else gi l i := by
  unfold gi
  rw [List.getElem?_set]
  by_cases e : i = k
  · subst e; rw [if_pos rfl, if_pos rfl, if_pos hk]; rfl
  · rw [if_neg e, if_neg (fun q => e q.symm)]
/-- A sum. -/
def tot (f : Nat → Nat) : Nat → Nat
  | 0 => 0
  | n + 1 => tot f n + f n
theorem tot_same {f g : Nat → Nat} : ∀ {n : Nat}, (∀ i, i < n → f i = g i) → tot f n = tot g n
  | 0, _ => rfl
  | n + 1, h => by rw [tot, tot, tot_same fun i hi => h i (by omega), h n (by omega)]
theorem tot_one {f g : Nat → Nat} {k : Nat} : ∀ {n : Nat}, k < n → (∀ i, i < n → i ≠ k → f i = g i) → tot f n + g k = tot g n + f k
  | 0, h, _ => by omega
  | n + 1, hk, h => by
    rw [tot, tot]
    by_cases e : k = n
    · subst e
      have := tot_same (f := f) (g := g) (n := k) fun i hi => h i (by omega) (by omega)
      omega
    · have := tot_one (f := f) (g := g) (n := n) (k := k) (by omega) fun i hi hne => h i (by omega) hne
      have := h n (by omega) (by omega)
      omega
theorem tot_le {f : Nat → Nat} {k : Nat} : ∀ {n : Nat}, k < n → f k ≤ tot f n
  | 0, h => by omega
  | n + 1, hk => by
    rw [tot]
    by_cases e : k = n
    · subst e; omega
    · have := tot_le (f := f) (n := n) (k := k) (by omega); omega
theorem tot_bound {f : Nat → Nat} {c : Nat} (h : ∀ i, f i ≤ c) : ∀ n : Nat, tot f n ≤ n * c
  | 0 => by simp [tot]
  | n + 1 => by rw [tot, Nat.succ_mul]; have := tot_bound h n; have := h n; omega
theorem tot_pos {f : Nat → Nat} : ∀ {n : Nat}, 0 < tot f n → ∃ i, i < n ∧ 0 < f i
  | 0, h => by simp [tot] at h
  | n + 1, h => by
    rw [tot] at h
    by_cases e : 0 < f n
    · exact ⟨n, by omega, e⟩
    · obtain ⟨i, hi, hf⟩ := tot_pos (f := f) (n := n) (by omega)
      exact ⟨i, by omega, hf⟩

/-- One queue. -/
def qk (p : Pool) (q : Nat) : List Int := ((p.queues_[q]?).map Order.kids_).getD []
theorem qk_set {p : Pool} {w q : Nat} {l : List Int} (hw : w < p.queues_.length) : ((((p.queues_.set w ⟨l⟩)[q]?).map Order.kids_).getD []) = if q = w then l else qk p q := by
  unfold qk
  rw [List.getElem?_set]
  by_cases e : q = w
  · subst e; rw [if_pos rfl, if_pos rfl, if_pos hw]; rfl
  · rw [if_neg e, if_neg (fun h => e h.symm)]
/-- A task ends, and whatever waited for it alone. -/
def pend (ps : List Int) : Nat → Pool → Nat → Pool
  | 0, p, _ => p
  | f + 1, p, t =>
    if gi ps t < 0 then { p with state_ := p.state_.set t 4, ended_ := p.ended_ ++ [(t : Int)] }
    else if gi p.state_ (gi ps t).toNat = 3 ∧ gi p.left_ (gi ps t).toNat - 1 = 0 then
      pend ps f { p with state_ := p.state_.set t 4, ended_ := p.ended_ ++ [(t : Int)], left_ := p.left_.set (gi ps t).toNat (gi p.left_ (gi ps t).toNat - 1) } (gi ps t).toNat
    else { p with state_ := p.state_.set t 4, ended_ := p.ended_ ++ [(t : Int)], left_ := p.left_.set (gi ps t).toNat (gi p.left_ (gi ps t).toNat - 1) }
def pstart (p : Pool) (w q : Nat) (l : List Int) (t : Nat) : Pool := { p with queues_ := p.queues_.set q ⟨l⟩, cur_ := p.cur_.set w t, state_ := p.state_.set t 2, ran_ := p.ran_ ++ [(t : Int)] }
/-- One step of a worker. -/
noncomputable def pstep (ps : List Int) (p : Pool) (w : Nat) (v : Int) : Pool :=
  if 0 ≤ gi p.cur_ w then
    if gi p.spawned_ (gi p.cur_ w).toNat < (kids ps (gi p.cur_ w)).length then
      { p with spawned_ := p.spawned_.set (gi p.cur_ w).toNat (gi p.spawned_ (gi p.cur_ w).toNat + 1), left_ := p.left_.set (gi p.cur_ w).toNat (gi p.left_ (gi p.cur_ w).toNat + 1),
               state_ := p.state_.set (gi (kids ps (gi p.cur_ w)) (gi p.spawned_ (gi p.cur_ w).toNat).toNat).toNat 1, queues_ := p.queues_.set w ⟨qk p w ++ [gi (kids ps (gi p.cur_ w)) (gi p.spawned_ (gi p.cur_ w).toNat).toNat]⟩ }
    else if 0 < gi p.left_ (gi p.cur_ w).toNat then { p with cur_ := p.cur_.set w (-1), state_ := p.state_.set (gi p.cur_ w).toNat 3 }
    else pend ps ((gi p.cur_ w).toNat + 1) { p with cur_ := p.cur_.set w (-1) } (gi p.cur_ w).toNat
  else if 0 < (qk p w).length then pstart p w w ((qk p w).take ((qk p w).length - 1)) (gi (qk p w) ((qk p w).length - 1)).toNat
  else if (0 ≤ v ∧ v < p.queues_.length) ∧ 0 < (qk p v.toNat).length then pstart p w v.toNat ((qk p v.toNat).drop 1) (gi (qk p v.toNat) 0).toNat
  else p
abbrev st (p : Pool) (i : Nat) : Int := gi p.state_ i
def childs (ps : List Int) (p : Pool) (i : Nat) (k : Nat) : Nat := if gi ps k = i ∧ 1 ≤ st p k ∧ st p k ≤ 3 then 1 else 0
structure PInv (ps : List Int) (wk : Nat) (lo : Int) (p : Pool) : Prop where
  lq : p.queues_.length = wk
  lc : p.cur_.length = wk
  lsp : p.spawned_.length = ps.length
  ll : p.left_.length = ps.length
  ls : p.state_.length = ps.length
  rg : ∀ i, i < ps.length → 0 ≤ st p i ∧ st p i ≤ 4
  qr : ∀ q, ∀ x ∈ qk p q, 0 ≤ x ∧ x < ps.length
  qc : ∀ i : Nat, i < ps.length → tot (fun q => (qk p q).count (i : Int)) wk = if st p i = 1 then 1 else 0
  cr : ∀ w, w < wk → -1 ≤ gi p.cur_ w ∧ gi p.cur_ w < ps.length
  cc : ∀ i : Nat, i < ps.length → tot (fun w => if gi p.cur_ w = i then 1 else 0) wk = if st p i = 2 ∧ (i : Int) ≠ lo then 1 else 0
  rr : ∀ x ∈ p.ran_, 0 ≤ x ∧ x < ps.length
  rc : ∀ i : Nat, i < ps.length → p.ran_.count (i : Int) = if 2 ≤ st p i then 1 else 0
  er : ∀ x ∈ p.ended_, 0 ≤ x ∧ x < ps.length
  ec : ∀ i : Nat, i < ps.length → p.ended_.count (i : Int) = if st p i = 4 then 1 else 0
  sp : ∀ i : Nat, i < ps.length → 0 ≤ gi p.spawned_ i ∧ gi p.spawned_ i ≤ (kids ps i).length ∧ (st p i < 2 → gi p.spawned_ i = 0) ∧ (3 ≤ st p i → gi p.spawned_ i = (kids ps i).length)
  ks : ∀ i : Nat, i < ps.length → ∀ j k : Nat, (kids ps i)[j]? = some (k : Int) → (st p k = 0 ↔ gi p.spawned_ i ≤ j)
  rt : ∀ i, i < ps.length → gi ps i < 0 → st p i ≠ 0
  lf : ∀ i, i < ps.length → gi p.left_ i = tot (childs ps p i) ps.length
  ed : ∀ i : Nat, i < ps.length → (i : Int) ≠ lo → (st p i = 4 → gi p.left_ i = 0) ∧ (st p i = 3 → 0 < gi p.left_ i)
  lo : 0 ≤ lo → lo < ps.length ∧ (st p lo.toNat = 2 ∨ st p lo.toNat = 3) ∧ gi p.left_ lo.toNat = 0 ∧ gi p.spawned_ lo.toNat = (kids ps lo).length
  eo : ∀ (j t k : Nat), p.ended_[j]? = some (t : Int) → k < ps.length → gi ps k = t → (k : Int) ∈ p.ended_.take j

/-! ### Children -/
theorem kid_of {ps : List Int} {i j : Nat} {x : Int} (h : (kids ps i)[j]? = some x) : ∃ k : Nat, x = k ∧ k < ps.length ∧ gi ps k = i := by
  have hm := List.mem_of_getElem? h
  unfold kids at hm
  split at hm
  · unfold kidsTo at hm
    obtain ⟨k, hk, rfl⟩ := List.mem_map.1 hm
    obtain ⟨h1, h2⟩ := List.mem_filter.1 hk
    exact ⟨k, rfl, List.mem_range.1 h1, gi_of (by simpa using h2)⟩
  · cases hm
theorem kid_inj {ps : List Int} {i j j' : Nat} {x : Int} (h : (kids ps i)[j]? = some x) (h' : (kids ps i)[j']? = some x) : j = j' := by
  have hn : (kids ps i).Nodup := by
    unfold kids
    split
    · unfold kidsTo
      rw [List.nodup_iff_pairwise_ne, List.pairwise_map]
      refine List.Pairwise.imp ?_ (List.nodup_iff_pairwise_ne.1 (List.nodup_range.filter _))
      intro a b hab e
      exact hab (by omega)
    · exact List.nodup_nil
  obtain ⟨a1, a2⟩ := List.getElem?_eq_some_iff.1 h
  obtain ⟨b1, b2⟩ := List.getElem?_eq_some_iff.1 h'
  have hp := List.pairwise_iff_getElem.1 (List.nodup_iff_pairwise_ne.1 hn)
  by_cases e1 : j < j'
  · exact absurd (a2.trans b2.symm) (hp j j' a1 b1 e1)
  · by_cases e2 : j' < j
    · exact absurd (b2.trans a2.symm) (hp j' j b1 a1 e2)
    · omega
theorem kid_there {ps : List Int} {i k : Nat} (hok : tasksOk ps = true) (hk : k < ps.length) (h : gi ps k = i) : ∃ j : Nat, (kids ps i)[j]? = some (k : Int) := by
  rw [kids_yes hok (by omega)]
  refine List.mem_iff_getElem?.1 ?_
  unfold kidsTo
  refine List.mem_map.2 ⟨k, List.mem_filter.2 ⟨List.mem_range.2 hk, ?_⟩, rfl⟩
  have := gi_get hk
  rw [h] at this
  simpa using this
theorem task_up {ps : List Int} (hok : tasksOk ps = true) {i : Nat} (hi : i < ps.length) : -1 ≤ gi ps i ∧ gi ps i ≤ (i : Int) - 1 := by
  have h : tasksOkP ps := by simpa [tasksOk] using hok
  exact h.2 i hi _ (gi_get hi)
theorem task_len {ps : List Int} (hok : tasksOk ps = true) : ps.length ≤ 20 := by
  have h : tasksOkP ps := by simpa [tasksOk] using hok
  exact h.1

section
variable {ps : List Int} {wk : Nat} {p : Pool}
theorem PInv.left0 {lo : Int} (h : PInv ps wk lo p) {i : Nat} (hi : i < ps.length) : 0 ≤ gi p.left_ i := by rw [h.lf i hi]; omega
/-- What stands when the last child has ended. -/
theorem pend_one (hok : tasksOk ps = true) {t : Nat} (h : PInv ps wk t p) (l' : List Int) (hl : l'.length = p.left_.length) (hg : ∀ i : Nat, i < ps.length → gi l' i = gi p.left_ i - (if gi ps t = i then 1 else 0)) (lo' : Int)
    (hlo : lo' = if 0 ≤ gi ps t ∧ st p (gi ps t).toNat = 3 ∧ gi l' (gi ps t).toNat = 0 then gi ps t else -1) :
    PInv ps wk lo' { p with state_ := p.state_.set t 4, ended_ := p.ended_ ++ [(t : Int)], left_ := l' } := by
  obtain ⟨ht, hs, hl0, hsp⟩ := h.lo (by omega)
  have ht' : t < ps.length := by omega
  rw [Int.toNat_natCast] at hs hl0 hsp
  have hup := task_up hok ht'
  have hS : ∀ i, st { p with state_ := p.state_.set t 4, ended_ := p.ended_ ++ [(t : Int)], left_ := l' } i = if i = t then 4 else st p i := fun i => gi_set (by rw [h.ls]; exact ht')
  have hlf : ∀ i : Nat, i < ps.length → gi l' i = tot (childs ps { p with state_ := p.state_.set t 4, ended_ := p.ended_ ++ [(t : Int)], left_ := l' } i) ps.length := by
    intro i hi
    have h1 := tot_one (f := childs ps p i) (g := childs ps { p with state_ := p.state_.set t 4, ended_ := p.ended_ ++ [(t : Int)], left_ := l' } i) (k := t) ht' fun j hj hne => by
      unfold childs; rw [hS, if_neg hne]
    have h2 : childs ps { p with state_ := p.state_.set t 4, ended_ := p.ended_ ++ [(t : Int)], left_ := l' } i t = 0 := by
      unfold childs; rw [hS, if_pos rfl]; rw [if_neg (by omega)]
    have h3 : childs ps p i t = if gi ps t = i then 1 else 0 := by
      unfold childs
      by_cases e : gi ps t = i
      · rw [if_pos e, if_pos ⟨e, by omega, by omega⟩]
      · rw [if_neg e, if_neg fun q => e q.1]
    have h4 := h.lf i hi
    rw [hg i hi, h4]
    rw [h2, h3] at h1
    split at h1 <;> omega
  have hupS : 0 ≤ gi ps t → st p (gi ps t).toNat ≠ 4 ∧ (gi ps t).toNat < t := by
    intro h0
    refine ⟨fun q => ?_, by omega⟩
    have hi : (gi ps t).toNat < ps.length := by omega
    have h5 := (h.ed (gi ps t).toNat hi (by omega)).1 q
    have h6 := h.lf (gi ps t).toNat hi
    have h7 := tot_le (f := childs ps p (gi ps t).toNat) ht'
    have h8 : childs ps p (gi ps t).toNat t = 1 := by unfold childs; rw [if_pos ⟨by omega, by omega, by omega⟩]
    omega
  refine ⟨h.lq, h.lc, h.lsp, hl.trans h.ll, by show (p.state_.set t 4).length = _; rw [List.length_set]; exact h.ls, ?_, h.qr, ?_, h.cr, ?_, h.rr, ?_, ?_, ?_, ?_, ?_, ?_, hlf, ?_, ?_, ?_⟩
  · intro i hi; rw [hS]; split
    · omega
    · exact h.rg i hi
  · intro i hi
    rw [hS]
    have h1 := h.qc i hi
    by_cases e : i = t
    · subst e; rw [if_pos rfl, if_neg (by decide)]; rw [if_neg (by omega)] at h1; exact h1
    · rw [if_neg e]; exact h1
  · intro i hi
    rw [hS]
    have h1 := h.cc i hi
    by_cases e : i = t
    · subst e; rw [if_pos rfl, if_neg (by omega)]; rw [if_neg (by omega)] at h1; exact h1
    · rw [if_neg e]
      rw [h1]
      by_cases c : st p i = 2
      · have : (i : Int) ≠ lo' := by
          rw [hlo]; split
          · rename_i q
            intro e2
            rw [← e2, Int.toNat_natCast] at q
            omega
          · omega
        rw [if_pos ⟨c, by omega⟩, if_pos ⟨c, this⟩]
      · rw [if_neg fun q => c q.1, if_neg fun q => c q.1]
  · intro i hi
    rw [hS]
    have h1 := h.rc i hi
    by_cases e : i = t
    · subst e; rw [if_pos rfl, if_pos (by decide)]; rw [if_pos (by omega)] at h1; exact h1
    · rw [if_neg e]; exact h1
  · intro x hx
    rcases List.mem_append.1 hx with q | q
    · exact h.er x q
    · rw [List.mem_singleton.1 q]; omega
  · intro i hi
    rw [hS]
    show (p.ended_ ++ [(t : Int)]).count (i : Int) = _
    rw [List.count_append, h.ec i hi, List.count_singleton]
    by_cases e : i = t
    · subst e; rw [if_pos rfl, if_neg (by omega)]; simp
    · rw [if_neg e]
      have : ((t : Int) == (i : Int)) = false := by simp; omega
      rw [this]; simp
  · intro i hi
    rw [hS]
    have h1 := h.sp i hi
    by_cases e : i = t
    · subst e; rw [if_pos rfl]; exact ⟨h1.1, h1.2.1, by omega, fun _ => hsp⟩
    · rw [if_neg e]; exact h1
  · intro i hi j k hk
    rw [hS]
    have h1 := h.ks i hi j k hk
    by_cases e : k = t
    · subst e; rw [if_pos rfl, ← h1]; omega
    · rw [if_neg e]; exact h1
  · intro i hi hr
    rw [hS]
    by_cases e : i = t
    · rw [if_pos e]; decide
    · rw [if_neg e]; exact h.rt i hi hr
  · intro i hi hne
    rw [hS]
    show (_ → gi l' i = 0) ∧ (_ → 0 < gi l' i)
    by_cases e : i = t
    · subst e
      rw [if_pos rfl, hg i hi, if_neg (by omega)]
      exact ⟨fun _ => by omega, by omega⟩
    · rw [if_neg e]
      have h1 := h.ed i hi (by omega)
      rw [hg i hi]
      by_cases e2 : gi ps t = i
      · have h0 : 0 ≤ gi ps t := by omega
        have h2 := hupS h0
        have e3 : (gi ps t).toNat = i := by omega
        rw [e3] at h2
        rw [if_pos e2]
        refine ⟨fun q => absurd q h2.1, fun q => ?_⟩
        have h3 := hg i hi
        rw [if_pos e2] at h3
        have h4 : 0 ≤ gi l' i := by rw [hlf i hi]; omega
        have h5 : gi l' i ≠ 0 := fun q2 => by
          rw [if_pos ⟨h0, by rw [e3]; exact q, by rw [e3]; exact q2⟩] at hlo
          exact hne (by omega)
        omega
      · rw [if_neg e2]
        exact ⟨fun q => by have := h1.1 q; omega, fun q => by have := h1.2 q; omega⟩
  · intro h0
    by_cases c : 0 ≤ gi ps t ∧ st p (gi ps t).toNat = 3 ∧ gi l' (gi ps t).toNat = 0
    · rw [if_pos c] at hlo
      subst hlo
      have hi : (gi ps t).toNat < ps.length := by omega
      rw [hS, if_neg (by omega)]
      refine ⟨by omega, .inr c.2.1, c.2.2, ?_⟩
      have := (h.sp (gi ps t).toNat hi).2.2.2 (by omega)
      rw [show ((gi ps t).toNat : Int) = gi ps t by omega] at this
      exact this
    · rw [if_neg c] at hlo; omega
  · intro j s k hj hk hks
    have hjl := (List.getElem?_eq_some_iff.1 hj).1
    have hj' : (p.ended_ ++ [(t : Int)])[j]? = some (s : Int) := hj
    show (k : Int) ∈ (p.ended_ ++ [(t : Int)]).take j
    by_cases hlt : j < p.ended_.length
    · rw [List.getElem?_append_left hlt] at hj'
      rw [List.take_append_of_le_length (by omega)]
      exact h.eo j s k hj' hk hks
    · have hl2 : (p.ended_ ++ [(t : Int)]).length = p.ended_.length + 1 := by simp
      have ej : j = p.ended_.length := by
        have : j < (p.ended_ ++ [(t : Int)]).length := hjl
        omega
      subst ej
      rw [List.getElem?_append_right (Nat.le_refl _), Nat.sub_self] at hj'
      have es : s = t := by simp at hj'; omega
      subst es
      rw [List.take_append_of_le_length (Nat.le_refl _), List.take_length]
      have h1 := h.lf s ht'
      have h2 := tot_le (f := childs ps p s) hk
      have h3 : childs ps p s k = 0 := by omega
      obtain ⟨jk, hjk⟩ := kid_there hok hk hks
      have h4 := (h.ks s ht' jk k hjk)
      have h5 := (List.getElem?_eq_some_iff.1 hjk).1
      have h6 := h.rg k hk
      have h7 : st p k = 4 := by
        unfold childs at h3
        by_cases c : gi ps k = s ∧ 1 ≤ st p k ∧ st p k ≤ 3
        · rw [if_pos c] at h3; omega
        · omega
      have h8 := h.ec k hk
      rw [if_pos h7] at h8
      exact List.count_pos_iff.1 (by omega)

theorem pend_inv (hok : tasksOk ps = true) : ∀ (f : Nat) {p : Pool} {t : Nat}, t < f → PInv ps wk t p → PInv ps wk (-1) (pend ps f p t)
  | 0, _, _, h, _ => absurd h (Nat.not_lt_zero _)
  | f + 1, p, t, hf, h => by
    have ht : t < ps.length := by have := (h.lo (by omega)).1; omega
    have hup := task_up hok ht
    unfold pend
    by_cases c0 : gi ps t < 0
    · rw [if_pos c0]
      exact pend_one hok h p.left_ rfl (fun i hi => by rw [if_neg (by omega)]; omega) (-1) (by rw [if_neg (by omega)])
    rw [if_neg c0]
    have hul : (gi ps t).toNat < p.left_.length := by rw [h.ll]; omega
    have hg : ∀ i : Nat, i < ps.length → gi (p.left_.set (gi ps t).toNat (gi p.left_ (gi ps t).toNat - 1)) i = gi p.left_ i - (if gi ps t = i then 1 else 0) := by
      intro i hi
      rw [gi_set hul]
      by_cases e : i = (gi ps t).toNat
      · rw [if_pos e, if_pos (by omega), e]
      · rw [if_neg e, if_neg (by omega)]; omega
    have hgu : gi (p.left_.set (gi ps t).toNat (gi p.left_ (gi ps t).toNat - 1)) (gi ps t).toNat = gi p.left_ (gi ps t).toNat - 1 := by rw [gi_set hul, if_pos rfl]
    by_cases c : gi p.state_ (gi ps t).toNat = 3 ∧ gi p.left_ (gi ps t).toNat - 1 = 0
    · rw [if_pos c]
      refine pend_inv hok f (by omega) ?_
      exact pend_one hok h _ (by rw [List.length_set]) hg _ (by rw [hgu, if_pos ⟨by omega, c.1, c.2⟩]; omega)
    · rw [if_neg c]
      exact pend_one hok h _ (by rw [List.length_set]) hg _ (by rw [hgu, if_neg fun q => c ⟨q.2.1, q.2.2⟩])

/-- Who runs, runs. -/
theorem PInv.runs (h : PInv ps wk (-1) p) {w t : Nat} (hw : w < wk) (hc : gi p.cur_ w = t) (ht : t < ps.length) : st p t = 2 := by
  have h1 := tot_le (f := fun w => if gi p.cur_ w = t then 1 else 0) hw
  have h2 := h.cc t ht
  simp only [hc, if_true] at h1
  by_cases c : st p t = 2
  · exact c
  · rw [if_neg fun q => c q.1] at h2; omega
theorem PInv.queued {lo : Int} (h : PInv ps wk lo p) {q t : Nat} (hq : q < wk) (ht : t < ps.length) (hm : (t : Int) ∈ qk p q) : st p t = 1 := by
  have h1 := tot_le (f := fun q => (qk p q).count (t : Int)) hq
  have h2 := h.qc t ht
  have h3 := List.count_pos_iff.2 hm
  have h1 : (qk p q).count (t : Int) ≤ tot (fun q => (qk p q).count (t : Int)) wk := h1
  by_cases c : st p t = 1
  · exact c
  · rw [if_neg c] at h2; omega

theorem inv_spawn (_hok : tasksOk ps = true) (h : PInv ps wk (-1) p) {w t k s : Nat} (hw : w < wk) (hc : gi p.cur_ w = t) (ht : t < ps.length) (hs : gi p.spawned_ t = s) (hk : (kids ps t)[s]? = some (k : Int)) :
    PInv ps wk (-1) { p with spawned_ := p.spawned_.set t ((s : Int) + 1), left_ := p.left_.set t (gi p.left_ t + 1), state_ := p.state_.set k 1, queues_ := p.queues_.set w ⟨qk p w ++ [(k : Int)]⟩ } := by
  have hrun := h.runs hw hc ht
  obtain ⟨k', e, hkn, hpk⟩ := kid_of hk
  obtain rfl : k = k' := by omega
  have hk0 : st p k = 0 := (h.ks t ht s k hk).2 (by omega)
  have hkt : k ≠ t := fun e => by rw [e] at hk0; omega
  have hS : ∀ i, st { p with spawned_ := p.spawned_.set t ((s : Int) + 1), left_ := p.left_.set t (gi p.left_ t + 1), state_ := p.state_.set k 1, queues_ := p.queues_.set w ⟨qk p w ++ [(k : Int)]⟩ } i = if i = k then 1 else st p i := fun i => gi_set (by rw [h.ls]; exact hkn)
  have hQ : ∀ q, qk { p with spawned_ := p.spawned_.set t ((s : Int) + 1), left_ := p.left_.set t (gi p.left_ t + 1), state_ := p.state_.set k 1, queues_ := p.queues_.set w ⟨qk p w ++ [(k : Int)]⟩ } q = if q = w then qk p w ++ [(k : Int)] else qk p q := fun q => qk_set (by rw [h.lq]; exact hw)
  have hsl : s < (kids ps t).length := (List.getElem?_eq_some_iff.1 hk).1
  refine ⟨by show (p.queues_.set w _).length = _; rw [List.length_set]; exact h.lq, h.lc, by show (p.spawned_.set t _).length = _; rw [List.length_set]; exact h.lsp, by show (p.left_.set t _).length = _; rw [List.length_set]; exact h.ll, by show (p.state_.set k _).length = _; rw [List.length_set]; exact h.ls, ?_, ?_, ?_, h.cr, ?_, h.rr, ?_, h.er, ?_, ?_, ?_, ?_, ?_, ?_, by omega, h.eo⟩
  · intro i hi; rw [hS]; split
    · omega
    · exact h.rg i hi
  · intro q x hx
    rw [hQ] at hx
    split at hx
    · rcases List.mem_append.1 hx with r | r
      · exact h.qr w x r
      · rw [List.mem_singleton.1 r]; omega
    · exact h.qr q x hx
  · intro i hi
    rw [hS]
    have h1 := tot_one (f := fun q => (qk p q).count (i : Int)) (g := fun q => (qk { p with spawned_ := p.spawned_.set t ((s : Int) + 1), left_ := p.left_.set t (gi p.left_ t + 1), state_ := p.state_.set k 1, queues_ := p.queues_.set w ⟨qk p w ++ [(k : Int)]⟩ } q).count (i : Int)) hw fun q hq hne => by
      rw [hQ, if_neg hne]
    have h2 := h.qc i hi
    simp only [hQ, if_true] at h1
    rw [List.count_append, List.count_singleton] at h1
    simp only [hQ]
    by_cases e : i = k
    · subst e
      rw [if_neg (by omega)] at h2
      rw [if_pos rfl, if_pos rfl]
      simp at h1
      omega
    · have e2 : ((k : Int) == (i : Int)) = false := by simp; omega
      rw [e2] at h1
      simp at h1
      rw [if_neg e, ← h2]
      omega
  · intro i hi
    rw [hS]
    have h1 := h.cc i hi
    by_cases e : i = k
    · subst e; rw [if_pos rfl, if_neg (by omega)]; rw [if_neg (by omega)] at h1; exact h1
    · rw [if_neg e]; exact h1
  · intro i hi
    rw [hS]
    have h1 := h.rc i hi
    by_cases e : i = k
    · subst e; rw [if_pos rfl, if_neg (by omega)]; rw [if_neg (by omega)] at h1; exact h1
    · rw [if_neg e]; exact h1
  · intro i hi
    rw [hS]
    have h1 := h.ec i hi
    by_cases e : i = k
    · subst e; rw [if_pos rfl, if_neg (by omega)]; rw [if_neg (by omega)] at h1; exact h1
    · rw [if_neg e]; exact h1
  · intro i hi
    rw [hS]
    have h1 := h.sp i hi
    show 0 ≤ gi (p.spawned_.set t ((s : Int) + 1)) i ∧ gi (p.spawned_.set t ((s : Int) + 1)) i ≤ _ ∧ (_ → gi (p.spawned_.set t ((s : Int) + 1)) i = 0) ∧ (_ → gi (p.spawned_.set t ((s : Int) + 1)) i = _)
    rw [gi_set (by rw [h.lsp]; exact ht)]
    by_cases e : i = t
    · subst e
      rw [if_pos rfl, if_neg (by omega)]
      exact ⟨by omega, by omega, by omega, by omega⟩
    · rw [if_neg e]
      by_cases e2 : i = k
      · subst e2; rw [if_pos rfl]; exact ⟨h1.1, h1.2.1, fun _ => h1.2.2.1 (by omega), by omega⟩
      · rw [if_neg e2]; exact h1
  · intro i hi j m hm
    rw [hS]
    have h1 := h.ks i hi j m hm
    show _ ↔ gi (p.spawned_.set t ((s : Int) + 1)) i ≤ j
    rw [gi_set (by rw [h.lsp]; exact ht)]
    obtain ⟨m', em, _, hpm⟩ := kid_of hm
    obtain rfl : m = m' := by omega
    by_cases e : i = t
    · subst e
      rw [if_pos rfl]
      by_cases e2 : m = k
      · subst e2
        rw [if_pos rfl]
        have := kid_inj hm hk
        omega
      · rw [if_neg e2]
        have : j ≠ s := fun q => by subst q; rw [hk] at hm; injection hm with hm; exact e2 (by omega)
        omega
    · rw [if_neg e, if_neg (fun q => by subst q; omega)]
      exact h1
  · intro i hi hr
    rw [hS]
    split
    · omega
    · exact h.rt i hi hr
  · intro i hi
    show gi (p.left_.set t (gi p.left_ t + 1)) i = _
    rw [gi_set (by rw [h.ll]; exact ht)]
    have h1 := tot_one (f := childs ps p i) (g := childs ps { p with spawned_ := p.spawned_.set t ((s : Int) + 1), left_ := p.left_.set t (gi p.left_ t + 1), state_ := p.state_.set k 1, queues_ := p.queues_.set w ⟨qk p w ++ [(k : Int)]⟩ } i) (k := k) hkn fun j hj hne => by
      unfold childs; rw [hS, if_neg hne]
    have h2 : childs ps p i k = 0 := by unfold childs; rw [if_neg (by omega)]
    have h3 : childs ps { p with spawned_ := p.spawned_.set t ((s : Int) + 1), left_ := p.left_.set t (gi p.left_ t + 1), state_ := p.state_.set k 1, queues_ := p.queues_.set w ⟨qk p w ++ [(k : Int)]⟩ } i k = if i = t then 1 else 0 := by
      unfold childs
      rw [hS, if_pos rfl]
      by_cases e : i = t
      · rw [if_pos e, if_pos ⟨by omega, by omega, by omega⟩]
      · rw [if_neg e, if_neg (by omega)]
    have h4 := h.lf i hi
    rw [h2, h3] at h1
    by_cases e : i = t
    · rw [if_pos e] at h1 ⊢; subst e; omega
    · rw [if_neg e] at h1 ⊢; omega
  · intro i hi hne
    rw [hS]
    show (_ → gi (p.left_.set t (gi p.left_ t + 1)) i = 0) ∧ (_ → 0 < gi (p.left_.set t (gi p.left_ t + 1)) i)
    rw [gi_set (by rw [h.ll]; exact ht)]
    have h1 := h.ed i hi hne
    by_cases e2 : i = k
    · rw [if_pos e2]; omega
    · rw [if_neg e2]
      by_cases e : i = t
      · subst e; omega
      · rw [if_neg e]; exact h1

/-- The worker lets its task go. -/
theorem inv_go (_hok : tasksOk ps = true) (h : PInv ps wk (-1) p) {w t : Nat} (hw : w < wk) (hc : gi p.cur_ w = t) (ht : t < ps.length) (hs : gi p.spawned_ t = (kids ps t).length) (hl : gi p.left_ t = 0) : PInv ps wk t { p with cur_ := p.cur_.set w (-1) } := by
  have hrun := h.runs hw hc ht
  have hC : ∀ i, gi (p.cur_.set w (-1)) i = if i = w then -1 else gi p.cur_ i := fun i => gi_set (by rw [h.lc]; exact hw)
  refine ⟨h.lq, by show (p.cur_.set w _).length = _; rw [List.length_set]; exact h.lc, h.lsp, h.ll, h.ls, h.rg, h.qr, h.qc, ?_, ?_, h.rr, h.rc, h.er, h.ec, h.sp, h.ks, h.rt, h.lf, fun i hi _ => h.ed i hi (by omega), fun _ => ⟨by omega, .inl (by rw [Int.toNat_natCast]; exact hrun), by rw [Int.toNat_natCast]; exact hl, by rw [Int.toNat_natCast]; exact hs⟩, h.eo⟩
  · intro v hv
    show -1 ≤ gi (p.cur_.set w (-1)) v ∧ gi (p.cur_.set w (-1)) v < _
    rw [hC]; split
    · omega
    · exact h.cr v hv
  · intro i hi
    have h1 := tot_one (f := fun v => if gi p.cur_ v = i then 1 else 0) (g := fun v => if gi (p.cur_.set w (-1)) v = i then 1 else 0) hw fun v hv hne => by simp only [hC]; rw [if_neg hne]
    have h2 := h.cc i hi
    simp only [hC, if_true, hc] at h1
    rw [if_neg (show ¬ (-1 : Int) = i by omega)] at h1
    show tot (fun v => if gi (p.cur_.set w (-1)) v = i then 1 else 0) wk = if st p i = 2 ∧ _ then 1 else 0
    simp only [hC]
    by_cases e : i = t
    · subst e
      rw [if_pos rfl] at h1
      rw [if_pos ⟨hrun, by omega⟩] at h2
      rw [if_neg (by omega)]
      omega
    · rw [if_neg (show ¬ (t : Int) = i by omega)] at h1
      by_cases c : st p i = 2
      · rw [if_pos ⟨c, by omega⟩] at h2 ⊢; omega
      · rw [if_neg (fun q => c q.1)] at h2 ⊢; omega
theorem inv_rest (_hok : tasksOk ps = true) (h : PInv ps wk (-1) p) {w t : Nat} (hw : w < wk) (hc : gi p.cur_ w = t) (ht : t < ps.length) (hs : gi p.spawned_ t = (kids ps t).length) (hl : 0 < gi p.left_ t) :
    PInv ps wk (-1) { p with cur_ := p.cur_.set w (-1), state_ := p.state_.set t 3 } := by
  have hrun := h.runs hw hc ht
  have hC : ∀ i, gi (p.cur_.set w (-1)) i = if i = w then -1 else gi p.cur_ i := fun i => gi_set (by rw [h.lc]; exact hw)
  have hS : ∀ i, st { p with cur_ := p.cur_.set w (-1), state_ := p.state_.set t 3 } i = if i = t then 3 else st p i := fun i => gi_set (by rw [h.ls]; exact ht)
  refine ⟨h.lq, by show (p.cur_.set w _).length = _; rw [List.length_set]; exact h.lc, h.lsp, h.ll, by show (p.state_.set t _).length = _; rw [List.length_set]; exact h.ls, ?_, h.qr, ?_, ?_, ?_, h.rr, ?_, h.er, ?_, ?_, ?_, ?_, ?_, ?_, by omega, h.eo⟩
  · intro i hi; rw [hS]; split
    · omega
    · exact h.rg i hi
  · intro i hi
    rw [hS]
    have h1 := h.qc i hi
    by_cases e : i = t
    · subst e; rw [if_pos rfl, if_neg (by omega)]; rw [if_neg (by omega)] at h1; exact h1
    · rw [if_neg e]; exact h1
  · intro v hv
    show -1 ≤ gi (p.cur_.set w (-1)) v ∧ gi (p.cur_.set w (-1)) v < _
    rw [hC]; split
    · omega
    · exact h.cr v hv
  · intro i hi
    have h1 := tot_one (f := fun v => if gi p.cur_ v = i then 1 else 0) (g := fun v => if gi (p.cur_.set w (-1)) v = i then 1 else 0) hw fun v hv hne => by simp only [hC]; rw [if_neg hne]
    have h2 := h.cc i hi
    simp only [hC, if_true, hc] at h1
    rw [if_neg (show ¬ (-1 : Int) = i by omega)] at h1
    rw [hS]
    show tot (fun v => if gi (p.cur_.set w (-1)) v = i then 1 else 0) wk = _
    simp only [hC]
    by_cases e : i = t
    · subst e
      rw [if_pos rfl] at h1
      rw [if_pos ⟨hrun, by omega⟩] at h2
      rw [if_pos rfl, if_neg (by omega)]
      omega
    · rw [if_neg (show ¬ (t : Int) = i by omega)] at h1
      rw [if_neg e, ← h2]
      omega
  · intro i hi
    rw [hS]
    have h1 := h.rc i hi
    by_cases e : i = t
    · subst e; rw [if_pos rfl, if_pos (by omega)]; rw [if_pos (by omega)] at h1; exact h1
    · rw [if_neg e]; exact h1
  · intro i hi
    rw [hS]
    have h1 := h.ec i hi
    by_cases e : i = t
    · subst e; rw [if_pos rfl, if_neg (by omega)]; rw [if_neg (by omega)] at h1; exact h1
    · rw [if_neg e]; exact h1
  · intro i hi
    rw [hS]
    have h1 := h.sp i hi
    by_cases e : i = t
    · subst e; rw [if_pos rfl]; exact ⟨h1.1, h1.2.1, by omega, fun _ => hs⟩
    · rw [if_neg e]; exact h1
  · intro i hi j k hk
    rw [hS]
    have h1 := h.ks i hi j k hk
    by_cases e : k = t
    · subst e; rw [if_pos rfl, ← h1]; omega
    · rw [if_neg e]; exact h1
  · intro i hi hr
    rw [hS]
    split
    · omega
    · exact h.rt i hi hr
  · intro i hi
    have h1 := h.lf i hi
    refine h1.trans ?_
    congr 1
    refine tot_same fun j hj => ?_
    unfold childs
    rw [hS]
    by_cases e : j = t
    · subst e
      rw [if_pos rfl, hrun]
      simp
    · rw [if_neg e]
  · intro i hi hne
    rw [hS]
    have h1 := h.ed i hi hne
    by_cases e : i = t
    · subst e; rw [if_pos rfl]; exact ⟨by omega, fun _ => hl⟩
    · rw [if_neg e]; exact h1

theorem inv_begin (_hok : tasksOk ps = true) (h : PInv ps wk (-1) p) {w q t : Nat} {l : List Int} (hw : w < wk) (hc : gi p.cur_ w < 0) (hq : q < wk) (ht : t < ps.length) (hm : (t : Int) ∈ qk p q) (hl : ∀ x ∈ l, x ∈ qk p q) (hcount : ∀ i : Int, (qk p q).count i = l.count i + (if i = t then 1 else 0)) :
    PInv ps wk (-1) (pstart p w q l t) := by
  have hque := h.queued hq ht hm
  have hC : ∀ i, gi (p.cur_.set w t) i = if i = w then (t : Int) else gi p.cur_ i := fun i => gi_set (by rw [h.lc]; exact hw)
  have hS : ∀ i, st (pstart p w q l t) i = if i = t then 2 else st p i := fun i => gi_set (by rw [h.ls]; exact ht)
  have hQ : ∀ v, qk (pstart p w q l t) v = if v = q then l else qk p v := fun v => qk_set (by rw [h.lq]; exact hq)
  refine ⟨by show (p.queues_.set q _).length = _; rw [List.length_set]; exact h.lq, by show (p.cur_.set w _).length = _; rw [List.length_set]; exact h.lc, h.lsp, h.ll, by show (p.state_.set t _).length = _; rw [List.length_set]; exact h.ls, ?_, ?_, ?_, ?_, ?_, ?_, ?_, h.er, ?_, ?_, ?_, ?_, ?_, ?_, by omega, h.eo⟩
  · intro i hi; rw [hS]; split
    · omega
    · exact h.rg i hi
  · intro v x hx
    rw [hQ] at hx
    split at hx
    · exact h.qr q x (hl x hx)
    · exact h.qr v x hx
  · intro i hi
    rw [hS]
    have h1 := tot_one (f := fun v => (qk p v).count (i : Int)) (g := fun v => (qk (pstart p w q l t) v).count (i : Int)) hq fun v hv hne => by rw [hQ, if_neg hne]
    have h2 := h.qc i hi
    simp only [hQ, if_true, hcount] at h1
    simp only [hQ]
    by_cases e : i = t
    · subst e
      rw [if_pos hque] at h2
      rw [if_pos rfl] at h1
      rw [if_pos rfl, if_neg (by decide)]
      omega
    · rw [if_neg (show ¬ (i : Int) = t by omega)] at h1
      rw [if_neg e, ← h2]
      omega
  · intro v hv
    show -1 ≤ gi (p.cur_.set w t) v ∧ gi (p.cur_.set w t) v < _
    rw [hC]; split
    · omega
    · exact h.cr v hv
  · intro i hi
    have h1 := tot_one (f := fun v => if gi p.cur_ v = i then 1 else 0) (g := fun v => if gi (p.cur_.set w t) v = i then 1 else 0) hw fun v hv hne => by simp only [hC]; rw [if_neg hne]
    have h2 := h.cc i hi
    simp only [hC, if_true] at h1
    rw [if_neg (show ¬ gi p.cur_ w = i by omega)] at h1
    rw [hS]
    show tot (fun v => if gi (p.cur_.set w t) v = i then 1 else 0) wk = _
    simp only [hC]
    by_cases e : i = t
    · subst e
      rw [if_neg (by omega)] at h2
      rw [if_pos rfl] at h1
      rw [if_pos rfl, if_pos (by omega)]
      omega
    · rw [if_neg (show ¬ (t : Int) = i by omega)] at h1
      rw [if_neg e, ← h2]
      omega
  · intro x hx
    rcases List.mem_append.1 hx with r | r
    · exact h.rr x r
    · rw [List.mem_singleton.1 r]; omega
  · intro i hi
    rw [hS]
    show (p.ran_ ++ [(t : Int)]).count (i : Int) = _
    rw [List.count_append, h.rc i hi, List.count_singleton]
    by_cases e : i = t
    · subst e; rw [if_pos rfl, if_neg (by omega)]; simp
    · rw [if_neg e]
      have : ((t : Int) == (i : Int)) = false := by simp; omega
      rw [this]; simp
  · intro i hi
    rw [hS]
    have h1 := h.ec i hi
    by_cases e : i = t
    · subst e; rw [if_pos rfl, if_neg (by omega)]; rw [if_neg (by omega)] at h1; exact h1
    · rw [if_neg e]; exact h1
  · intro i hi
    rw [hS]
    have h1 := h.sp i hi
    by_cases e : i = t
    · subst e; rw [if_pos rfl]; exact ⟨h1.1, h1.2.1, by omega, by omega⟩
    · rw [if_neg e]; exact h1
  · intro i hi j k hk
    rw [hS]
    have h1 := h.ks i hi j k hk
    by_cases e : k = t
    · subst e
      have h2 : gi (pstart p w q l k).spawned_ i = gi p.spawned_ i := rfl
      rw [if_pos rfl, h2, ← h1]; omega
    · rw [if_neg e]; exact h1
  · intro i hi hr
    rw [hS]
    split
    · omega
    · exact h.rt i hi hr
  · intro i hi
    have h1 := h.lf i hi
    refine h1.trans ?_
    congr 1
    refine tot_same fun j hj => ?_
    unfold childs
    rw [hS]
    by_cases e : j = t
    · subst e
      rw [if_pos rfl, hque]
      simp
    · rw [if_neg e]
  · intro i hi hne
    rw [hS]
    have h1 := h.ed i hi hne
    by_cases e : i = t
    · subst e; rw [if_pos rfl]; omega
    · rw [if_neg e]; exact h1

theorem count_last (l : List Int) {t : Int} (ht : l[l.length - 1]? = some t) (i : Int) : l.count i = (l.take (l.length - 1)).count i + (if i = t then 1 else 0) := by
  have hl : 0 < l.length := by have := (List.getElem?_eq_some_iff.1 ht).1; omega
  have e : l = l.take (l.length - 1) ++ [t] := by
    have h := List.take_add_one (l := l) (i := l.length - 1)
    rw [ht] at h
    rw [show l.length - 1 + 1 = l.length by omega, List.take_length] at h
    exact h
  conv => lhs; rw [e]
  rw [List.count_append, List.count_singleton]
  by_cases c : i = t
  · subst c; simp
  · have : (t == i) = false := by simp; exact fun q => c q.symm
    rw [this, if_neg c]; simp
theorem count_first (l : List Int) {t : Int} (ht : l[0]? = some t) (i : Int) : l.count i = (l.drop 1).count i + (if i = t then 1 else 0) := by
  cases l with
  | nil => simp at ht
  | cons a l =>
    simp at ht
    subst ht
    rw [List.count_cons, List.drop_one, List.tail_cons]
    by_cases c : i = a
    · subst c; simp
    · have : (a == i) = false := by simp; exact fun q => c q.symm
      rw [this, if_neg c]; simp
/-- How far it all is. -/
def far (ps : List Int) (p : Pool) : Nat := tot (fun i => (st p i).toNat) ps.length
theorem far_set {t : Nat} {v : Int} {p' : Pool} (ht : t < ps.length) (hl : p.state_.length = ps.length) (hp : p'.state_ = p.state_.set t v) (hv : (st p t).toNat < v.toNat) : far ps p < far ps p' := by
  have hS : ∀ i, st p' i = if i = t then v else st p i := fun i => by unfold st; rw [hp]; exact gi_set (by rw [hl]; exact ht)
  have h1 := tot_one (f := fun i => (st p i).toNat) (g := fun i => (st p' i).toNat) ht fun i hi hne => by simp only [hS]; rw [if_neg hne]
  unfold far
  simp only [hS, if_true] at h1 ⊢
  omega
theorem far_le {lo : Int} (h : PInv ps wk lo p) : far ps p ≤ ps.length * 4 := by
  have h1 : far ps p = tot (fun i => if i < ps.length then (st p i).toNat else 0) ps.length := tot_same fun i hi => by rw [if_pos hi]
  rw [h1]
  refine tot_bound (fun i => ?_) _
  split
  · have := h.rg i (by assumption); omega
  · omega
theorem pend_far (hok : tasksOk ps = true) : ∀ (f : Nat) {p : Pool} {t : Nat}, t < f → PInv ps wk t p → far ps p < far ps (pend ps f p t)
  | 0, _, _, h, _ => absurd h (Nat.not_lt_zero _)
  | f + 1, p, t, hf, h => by
    have ht : t < ps.length := by have := (h.lo (by omega)).1; omega
    have hs := (h.lo (by omega)).2.1
    rw [Int.toNat_natCast] at hs
    have hup := task_up hok ht
    unfold pend
    by_cases c0 : gi ps t < 0
    · rw [if_pos c0]
      exact far_set ht h.ls rfl (by omega)
    rw [if_neg c0]
    by_cases c : gi p.state_ (gi ps t).toNat = 3 ∧ gi p.left_ (gi ps t).toNat - 1 = 0
    · rw [if_pos c]
      have hul : (gi ps t).toNat < p.left_.length := by rw [h.ll]; omega
      refine Nat.lt_trans (far_set (p' := { p with state_ := p.state_.set t 4, ended_ := p.ended_ ++ [(t : Int)], left_ := p.left_.set (gi ps t).toNat (gi p.left_ (gi ps t).toNat - 1) }) ht h.ls rfl (by omega)) (pend_far hok f (by omega) ?_)
      refine pend_one hok h _ (by rw [List.length_set]) (fun i hi => ?_) _ ?_
      · rw [gi_set hul]
        by_cases e : i = (gi ps t).toNat
        · rw [if_pos e, if_pos (by omega), e]
        · rw [if_neg e, if_neg (by omega)]; omega
      · rw [gi_set hul, if_pos rfl, if_pos ⟨by omega, c.1, c.2⟩]; omega
    · rw [if_neg c]
      exact far_set ht h.ls rfl (by omega)
theorem pend_ran : ∀ (f : Nat) (p : Pool) (t : Nat), (pend ps f p t).ran_ = p.ran_
  | 0, _, _ => rfl
  | f + 1, p, t => by
    unfold pend
    split
    · rfl
    · split
      · rw [pend_ran f]
      · rfl
/-- A step: all stays true; it goes on, unless there is nothing to do. -/
theorem step_all (hok : tasksOk ps = true) (h : PInv ps wk (-1) p) {w : Nat} (hw : w < wk) (v : Int) :
    PInv ps wk (-1) (pstep ps p w v) ∧ p.ran_ <+: (pstep ps p w v).ran_ ∧ (pstep ps p w v = p ∨ far ps p < far ps (pstep ps p w v)) ∧ (0 ≤ gi p.cur_ w ∨ 0 < (qk p w).length → far ps p < far ps (pstep ps p w v)) := by
  have hcr := h.cr w hw
  by_cases c : 0 ≤ gi p.cur_ w
  · obtain ⟨t, ht⟩ : ∃ t : Nat, gi p.cur_ w = t := ⟨(gi p.cur_ w).toNat, by omega⟩
    have htn : t < ps.length := by omega
    have hsp := h.sp t htn
    have hrun := h.runs hw ht htn
    have htt : ((t : Int)).toNat = t := Int.toNat_natCast t
    obtain ⟨s, hs⟩ : ∃ s : Nat, gi p.spawned_ t = s := ⟨(gi p.spawned_ t).toNat, by omega⟩
    have hss : ((s : Int)).toNat = s := Int.toNat_natCast s
    unfold pstep
    rw [if_pos c, ht, htt, hs, hss]
    by_cases c1 : (s : Int) < (kids ps t).length
    · rw [if_pos c1]
      have hg := gi_get (l := kids ps t) (i := s) (by omega)
      obtain ⟨k, ek, hkn, _⟩ := kid_of hg
      rw [ek] at hg ⊢
      rw [Int.toNat_natCast]
      have hk0 : st p k = 0 := (h.ks t htn s k hg).2 (by omega)
      have hf : far ps p < far ps { p with spawned_ := p.spawned_.set t ((s : Int) + 1), left_ := p.left_.set t (gi p.left_ t + 1), state_ := p.state_.set k 1, queues_ := p.queues_.set w ⟨qk p w ++ [(k : Int)]⟩ } := far_set hkn h.ls rfl (by rw [hk0]; decide)
      exact ⟨inv_spawn hok h hw ht htn hs hg, List.prefix_rfl, .inr hf, fun _ => hf⟩
    rw [if_neg c1]
    have hs2 : gi p.spawned_ t = (kids ps t).length := by omega
    by_cases c2 : 0 < gi p.left_ t
    · rw [if_pos c2]
      have hf : far ps p < far ps { p with cur_ := p.cur_.set w (-1), state_ := p.state_.set t 3 } := far_set htn h.ls rfl (by rw [hrun]; decide)
      exact ⟨inv_rest hok h hw ht htn hs2 c2, List.prefix_rfl, .inr hf, fun _ => hf⟩
    · rw [if_neg c2]
      have hgo := inv_go hok h hw ht htn hs2 (by have := h.left0 htn; omega)
      have hf := pend_far hok (t + 1) (Nat.lt_succ_self t) hgo
      exact ⟨pend_inv hok (t + 1) (Nat.lt_succ_self t) hgo, by rw [pend_ran]; exact List.prefix_rfl, .inr hf, fun _ => hf⟩
  unfold pstep
  rw [if_neg c]
  by_cases c1 : 0 < (qk p w).length
  · rw [if_pos c1]
    have hg := gi_get (l := qk p w) (i := (qk p w).length - 1) (by omega)
    have hm := List.mem_of_getElem? hg
    have hr := h.qr w _ hm
    obtain ⟨t, ht⟩ : ∃ t : Nat, gi (qk p w) ((qk p w).length - 1) = t := ⟨_, (Int.toNat_of_nonneg hr.1).symm⟩
    rw [ht] at hg hm hr ⊢
    rw [Int.toNat_natCast]
    have htn : t < ps.length := by omega
    have hq := h.queued hw htn hm
    have hf : far ps p < far ps (pstart p w w ((qk p w).take ((qk p w).length - 1)) t) := far_set htn h.ls rfl (by rw [hq]; decide)
    exact ⟨inv_begin hok h hw (by omega) hw htn hm (fun x hx => List.mem_of_mem_take hx) (count_last _ hg), List.prefix_append _ _, .inr hf, fun _ => hf⟩
  rw [if_neg c1]
  by_cases c2 : (0 ≤ v ∧ v < p.queues_.length) ∧ 0 < (qk p v.toNat).length
  · rw [if_pos c2]
    have hg := gi_get (l := qk p v.toNat) (i := 0) c2.2
    have hm := List.mem_of_getElem? hg
    have hr := h.qr v.toNat _ hm
    obtain ⟨t, ht⟩ : ∃ t : Nat, gi (qk p v.toNat) 0 = t := ⟨_, (Int.toNat_of_nonneg hr.1).symm⟩
    rw [ht] at hg hm hr ⊢
    rw [Int.toNat_natCast]
    have htn : t < ps.length := by omega
    have hvw : v.toNat < wk := by have := h.lq; omega
    have hq := h.queued hvw htn hm
    have hf : far ps p < far ps (pstart p w v.toNat ((qk p v.toNat).drop 1) t) := far_set htn h.ls rfl (by rw [hq]; decide)
    exact ⟨inv_begin hok h hw (by omega) hvw htn hm (fun x hx => List.mem_of_mem_drop hx) (count_first _ hg), List.prefix_append _ _, .inr hf, fun _ => hf⟩
  · rw [if_neg c2]
    exact ⟨h, List.prefix_rfl, .inl rfl, fun q => by omega⟩
end
end Go.Proofs.Ytfkbomcbcjjlbaa
