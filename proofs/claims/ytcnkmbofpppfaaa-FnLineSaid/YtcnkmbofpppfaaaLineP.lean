/- The orders that fit: the two searches find the same ones. Plain. -/
import Derived.Test.YtcnkmbofpppfaaaFits
namespace Go.Proofs.Ytcnkmbofpppfaaa
open Go.RowKit Go.Deep
set_option linter.unusedSimpArgs false
set_option linter.unusedVariables false

def cc (l : List Call) (k : Nat) : Call := (l[k]?).getD ⟨0, 0, 0, 0, 0⟩
theorem cc_of {l : List Call} {k : Nat} {c : Call} (h : l[k]? = some c) : cc l k = c := by unfold cc; rw [h]; rfl
def nxt (l : List Call) (v : Int) (k : Nat) : Int := (callDo v (cc l k).kind (cc l k).arg).1
def retOk (l : List Call) (v : Int) (k : Nat) : Prop := (callDo v (cc l k).kind (cc l k).arg).2 = (cc l k).ret
/-- May k be next: as the program asks; as the reference asks. -/
noncomputable def okI (l : List Call) (p : List Nat) (v : Int) (k : Nat) : Bool := dec ((∀ j ∈ p, ¬ (cc l k).to_ < (cc l j).from_) ∧ retOk l v k ∧ k ∉ p)
noncomputable def okS (l : List Call) (p : List Nat) (v : Int) (k : Nat) : Bool := dec (k ∉ p ∧ (∀ j, j < l.length → j ∉ p → ¬ (cc l j).to_ < (cc l k).from_) ∧ retOk l v k)
abbrev Leaf := List Nat × Int
/-- The full orders behind p, and where they end: through the first m choices. -/
def leavesTo (l : List Call) (ok : List Nat → Int → Nat → Bool) (rec : List Nat → Int → List Leaf) (p : List Nat) (v : Int) : Nat → List Leaf
  | 0 => []
  | m + 1 => leavesTo l ok rec p v m ++ (if ok p v m = true then rec (p ++ [m]) (nxt l v m) else [])
def leaves (l : List Call) (ok : List Nat → Int → Nat → Bool) : Nat → List Nat → Int → List Leaf
  | 0, p, v => [(p, v)]
  | f + 1, p, v => leavesTo l ok (leaves l ok f) p v l.length
theorem leavesTo_yes {l : List Call} {ok : List Nat → Int → Nat → Bool} {rec : List Nat → Int → List Leaf} {p : List Nat} {v : Int} {m : Nat} (h : ok p v m = true) : leavesTo l ok rec p v (m + 1) = leavesTo l ok rec p v m ++ rec (p ++ [m]) (nxt l v m) := by simp [leavesTo, h]
theorem leavesTo_no {l : List Call} {ok : List Nat → Int → Nat → Bool} {rec : List Nat → Int → List Leaf} {p : List Nat} {v : Int} {m : Nat} (h : ok p v m = false) : leavesTo l ok rec p v (m + 1) = leavesTo l ok rec p v m := by simp [leavesTo, h]
theorem leavesTo_nil {l : List Call} {ok : List Nat → Int → Nat → Bool} {rec : List Nat → Int → List Leaf} {p : List Nat} {v : Int} : ∀ {m : Nat}, (∀ k, k < m → ok p v k = true → rec (p ++ [k]) (nxt l v k) = []) → leavesTo l ok rec p v m = []
  | 0, _ => rfl
  | m + 1, h => by
    unfold leavesTo
    rw [leavesTo_nil fun k hk => h k (by omega), List.nil_append]
    split
    · rename_i c; exact h m (Nat.lt_succ_self m) c
    · rfl
theorem leavesTo_same {l : List Call} {ok ok' : List Nat → Int → Nat → Bool} {rec rec' : List Nat → Int → List Leaf} {p : List Nat} {v : Int} : ∀ {m : Nat}, (∀ k, k < m → (if ok p v k = true then rec (p ++ [k]) (nxt l v k) else []) = (if ok' p v k = true then rec' (p ++ [k]) (nxt l v k) else [])) → leavesTo l ok rec p v m = leavesTo l ok' rec' p v m
  | 0, _ => rfl
  | m + 1, h => by
    unfold leavesTo
    rw [leavesTo_same fun k hk => h k (by omega), h m (Nat.lt_succ_self m)]
/-- Numbers below n, none twice: no more than n; where they are n, all of them. -/
theorem nodup_all : ∀ (n : Nat) (p : List Nat), p.Nodup → (∀ x ∈ p, x < n) → p.length ≤ n ∧ (p.length = n → ∀ j, j < n → j ∈ p)
  | 0, p, _, h => by
    cases p with
    | nil => exact ⟨Nat.le_refl _, fun _ j hj => absurd hj (Nat.not_lt_zero _)⟩
    | cons a p => exact absurd (h a (List.mem_cons_self ..)) (Nat.not_lt_zero _)
  | n + 1, p, hd, h => by
    by_cases c : n ∈ p
    · have h1 := List.length_erase_of_mem c
      have h2 : 0 < p.length := List.length_pos_of_mem c
      have hd' := hd.erase n
      obtain ⟨i1, i2⟩ := nodup_all n (p.erase n) hd' fun x hx => by
        have hx' := (hd.mem_erase_iff).1 hx
        have := h x hx'.2
        have := hx'.1
        omega
      refine ⟨by omega, fun he j hj => ?_⟩
      by_cases e : j = n
      · subst e; exact c
      · exact List.mem_of_mem_erase (i2 (by omega) j (by omega))
    · obtain ⟨i1, _⟩ := nodup_all n p hd fun x hx => by
        have := h x hx
        have : x ≠ n := fun e => c (e ▸ hx)
        omega
      exact ⟨by omega, fun he => by omega⟩
/-- What must be ahead of something in p is in p. -/
def closed (l : List Call) (p : List Nat) : Prop := ∀ k ∈ p, ∀ j, j < l.length → j ∉ p → ¬ (cc l j).to_ < (cc l k).from_
theorem nodup_push {p : List Nat} {k : Nat} (h : p.Nodup) (hk : k ∉ p) : (p ++ [k]).Nodup := by
  rw [List.nodup_append]
  refine ⟨h, by simp, fun a ha b hb => ?_⟩
  simp at hb
  subst hb
  intro e
  exact hk (e ▸ ha)
theorem dead {l : List Call} : ∀ (f : Nat) (p : List Nat) (v : Int), p.length + f = l.length → p.Nodup → (∀ x ∈ p, x < l.length) → (∃ k ∈ p, ∃ j, j < l.length ∧ j ∉ p ∧ (cc l j).to_ < (cc l k).from_) → leaves l (okI l) f p v = []
  | 0, p, v, hl, hd, hr, ⟨k, hk, j, hj, hjp, _⟩ => absurd ((nodup_all l.length p hd hr).2 (by omega) j hj) hjp
  | f + 1, p, v, hl, hd, hr, ⟨k, hk, j, hj, hjp, hlt⟩ => by
    refine leavesTo_nil fun m hm hok => ?_
    have ho := dec_true hok
    have hmp := ho.2.2
    have hmj : m ≠ j := fun e => by subst e; exact ho.1 k hk hlt
    refine dead f (p ++ [m]) _ (by simp; omega) (nodup_push hd hmp) (fun x hx => ?_) ⟨k, List.mem_append_left _ hk, j, hj, fun q => ?_, hlt⟩
    · rcases List.mem_append.1 hx with h | h
      · exact hr x h
      · simp at h; omega
    · rcases List.mem_append.1 q with h | h
      · exact hjp h
      · simp at h; exact hmj h.symm
theorem leaves_same {l : List Call} (hft : ∀ k, k < l.length → (cc l k).from_ ≤ (cc l k).to_) : ∀ (f : Nat) (p : List Nat) (v : Int), p.length + f = l.length → p.Nodup → (∀ x ∈ p, x < l.length) → closed l p → leaves l (okI l) f p v = leaves l (okS l) f p v
  | 0, _, _, _, _, _, _ => rfl
  | f + 1, p, v, hl, hd, hr, hc => by
    refine leavesTo_same fun k hk => ?_
    by_cases hs : okS l p v k = true
    · have h := dec_true hs
      have hi : okI l p v k = true := dec_yes ⟨fun j hj => hc j hj k hk h.1, h.2.2, h.1⟩
      rw [if_pos hs, if_pos hi]
      refine leaves_same hft f (p ++ [k]) _ (by simp; omega) (nodup_push hd h.1) (fun x hx => ?_) fun a ha j hj hjp => ?_
      · rcases List.mem_append.1 hx with q | q
        · exact hr x q
        · simp at q; omega
      · have hjp' : j ∉ p := fun q => hjp (List.mem_append_left _ q)
        rcases List.mem_append.1 ha with q | q
        · exact hc a q j hj hjp'
        · simp at q; subst q; exact h.2.1 j hj hjp'
    · rw [if_neg hs]
      by_cases hi : okI l p v k = true
      · rw [if_pos hi]
        have h := dec_true hi
        have hne : ∃ j, j < l.length ∧ j ∉ p ∧ (cc l j).to_ < (cc l k).from_ := by
          apply Classical.byContradiction
          intro q
          exact hs (dec_yes ⟨h.2.2, fun j hj hjp hlt => q ⟨j, hj, hjp, hlt⟩, h.2.1⟩)
        obtain ⟨j, hj, hjp, hlt⟩ := hne
        have hjk : j ≠ k := fun e => by subst e; have := hft j hj; omega
        refine dead f (p ++ [k]) _ (by simp; omega) (nodup_push hd h.2.2) (fun x hx => ?_) ⟨k, by simp, j, hj, fun q => ?_, hlt⟩
        · rcases List.mem_append.1 hx with q | q
          · exact hr x q
          · simp at q; omega
        · rcases List.mem_append.1 q with q | q
          · exact hjp q
          · simp at q; exact hjk q
      · rw [if_neg hi]
theorem closed_nil (l : List Call) : closed l [] := fun k hk => by cases hk
/-- All full orders that fit. -/
noncomputable def allFit (l : List Call) (v : Int) : List Leaf := leaves l (okI l) l.length [] v
theorem allFit_spec {l : List Call} (h : callsOk l = true) (v : Int) : leaves l (okS l) l.length [] v = allFit l v := by
  refine (leaves_same (fun k hk => ?_) l.length [] v (by simp) List.nodup_nil (fun x hx => by cases hx) (closed_nil l)).symm
  have := (dec_true h).2 k hk _ (List.getElem?_eq_getElem hk)
  rw [cc_of (List.getElem?_eq_getElem hk)]
  exact this.2.1.1
/-- The values stay values. -/
theorem callDo_in {v k a : Int} (hv : 0 ≤ v ∧ v ≤ 65535) (ha : 0 ≤ a ∧ a ≤ 65535) : 0 ≤ (callDo v k a).1 ∧ (callDo v k a).1 ≤ 65535 := by
  rw [callDo_k hv ha]
  split
  · exact ha
  · split
    · exact hv
    · split
      · show 0 ≤ (v + a) % 65536 ∧ (v + a) % 65536 ≤ 65535
        omega
      · split
        · exact ha
        · exact hv
theorem nxt_in {l : List Call} (h : callsOk l = true) {v : Int} (hv : 0 ≤ v ∧ v ≤ 65535) {k : Nat} (hk : k < l.length) : 0 ≤ nxt l v k ∧ nxt l v k ≤ 65535 := by
  have := (dec_true h).2 k hk _ (List.getElem?_eq_getElem hk)
  unfold nxt
  rw [cc_of (List.getElem?_eq_getElem hk)]
  exact callDo_in hv this.2.2.2.1
theorem leavesTo_mem {l : List Call} {ok : List Nat → Int → Nat → Bool} {rec : List Nat → Int → List Leaf} {p : List Nat} {v : Int} {x : Leaf} : ∀ {m : Nat}, x ∈ leavesTo l ok rec p v m → ∃ k, k < m ∧ ok p v k = true ∧ x ∈ rec (p ++ [k]) (nxt l v k)
  | 0, h => by cases h
  | m + 1, h => by
    unfold leavesTo at h
    rcases List.mem_append.1 h with h | h
    · obtain ⟨k, hk, h1, h2⟩ := leavesTo_mem h
      exact ⟨k, by omega, h1, h2⟩
    · split at h
      · rename_i c; exact ⟨m, Nat.lt_succ_self m, c, h⟩
      · cases h
theorem leaves_in {l : List Call} (hok : callsOk l = true) {ok : List Nat → Int → Nat → Bool} : ∀ (f : Nat) (p : List Nat) (v : Int), (0 ≤ v ∧ v ≤ 65535) → ∀ x ∈ leaves l ok f p v, 0 ≤ x.2 ∧ x.2 ≤ 65535
  | 0, p, v, hv, x, hx => by simp [leaves] at hx; subst hx; exact hv
  | f + 1, p, v, hv, x, hx => by
    obtain ⟨k, hk, _, h⟩ := leavesTo_mem hx
    exact leaves_in hok f _ _ (nxt_in hok hv hk) x h
theorem leavesTo_len {l : List Call} {ok : List Nat → Int → Nat → Bool} {rec : List Nat → Int → List Leaf} {p : List Nat} {v : Int} {b : Nat} (h : ∀ q u, (rec q u).length ≤ b) : ∀ m : Nat, (leavesTo l ok rec p v m).length ≤ m * b
  | 0 => by simp [leavesTo]
  | m + 1 => by
    have ih := leavesTo_len (l := l) (ok := ok) (p := p) (v := v) h m
    have h1 := h (p ++ [m]) (nxt l v m)
    unfold leavesTo
    rw [List.length_append, Nat.succ_mul]
    split <;> simp <;> omega
theorem leaves_len {l : List Call} (hl : l.length ≤ 7) {ok : List Nat → Int → Nat → Bool} : ∀ (f : Nat) (p : List Nat) (v : Int), (leaves l ok f p v).length ≤ 7 ^ f
  | 0, _, _ => by simp [leaves]
  | f + 1, p, v => by
    have := leavesTo_len (l := l) (ok := ok) (p := p) (v := v) (leaves_len hl (ok := ok) f) l.length
    unfold leaves
    rw [Nat.pow_succ, Nat.mul_comm]
    exact Nat.le_trans this (Nat.mul_le_mul_right _ hl)
/-- What a taker makes of them, one after the other, until it has enough. -/
def foldU {σ : Type} (stp : σ → Leaf → σ × Bool) : σ → List Leaf → σ × Bool
  | s, [] => (s, false)
  | s, x :: r => if (stp s x).2 = true then ((stp s x).1, true) else foldU stp (stp s x).1 r
theorem foldU_append {σ : Type} (stp : σ → Leaf → σ × Bool) : ∀ (a b : List Leaf) (s : σ), foldU stp s (a ++ b) = if (foldU stp s a).2 = true then foldU stp s a else foldU stp (foldU stp s a).1 b
  | [], b, s => by simp [foldU]
  | x :: a, b, s => by
    simp only [List.cons_append, foldU]
    by_cases h : (stp s x).2 = true
    · simp [h]
    · simp only [h, if_false, Bool.false_eq_true]
      exact foldU_append stp a b _
end Go.Proofs.Ytcnkmbofpppfaaa
