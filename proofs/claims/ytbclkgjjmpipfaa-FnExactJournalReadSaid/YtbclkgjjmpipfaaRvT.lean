/- The number that a string begins with: plain words. No condition. -/
import Derived.Test.YtbclkgjjmpipfaaVarT
import Derived.Test.YtbclkgjjmpipfaaIn
namespace Go.Proofs.Ytbclkgjjmpipfaa
open Go.RowKit

def num : List UInt8 → Nat
  | [] => 0
  | b :: l => b.toNat % 128 + 128 * num l
theorem num_snoc (l : List UInt8) (b : UInt8) : num (l ++ [b]) = num l + b.toNat % 128 * 128 ^ l.length := by
  induction l with
  | nil => simp [num]
  | cons a l ih =>
    simp only [List.cons_append, num, ih, List.length_cons, Nat.pow_succ, Nat.mul_add]
    have e : 128 * (b.toNat % 128 * 128 ^ l.length) = b.toNat % 128 * (128 ^ l.length * 128) := by
      rw [← Nat.mul_assoc, Nat.mul_comm 128, Nat.mul_assoc, Nat.mul_comm 128]
    omega
theorem num_lt (l : List UInt8) : num l < 128 ^ l.length := by
  induction l with
  | nil => simp [num]
  | cons a l ih =>
    simp only [num, List.length_cons, Nat.pow_succ]
    omega
/-- All bytes but the last bear the mark. -/
theorem varL_shape (n : Nat) : 1 ≤ (varL n).length ∧ ∀ j b, (varL n)[j]? = some b → (b.toNat < 128 ↔ j + 1 = (varL n).length) := by
  induction n using Nat.strongRecOn with
  | _ n ih =>
    by_cases h : n ≤ 127
    · rw [varL_end h]
      refine ⟨by simp, fun j b hb => ?_⟩
      rcases j with _ | j
      · rw [List.getElem?_cons_zero] at hb
        injection hb with hb
        rw [← hb, ofNat_toNat (by omega)]
        simp only [List.length_cons, List.length_nil]
        exact ⟨fun _ => by simp, fun _ => by omega⟩
      · simp at hb
    · rw [varL_on (by omega)]
      obtain ⟨h1, h2⟩ := ih (n / 128) (by omega)
      refine ⟨by simp, fun j b hb => ?_⟩
      rcases j with _ | j
      · rw [List.getElem?_cons_zero] at hb
        injection hb with hb
        rw [← hb, ofNat_toNat (by omega)]
        simp only [List.length_cons]
        omega
      · simp only [List.getElem?_cons_succ] at hb
        rw [h2 j b hb]
        simp
def Good (l : List UInt8) (k : Nat) : Prop := 1 ≤ k ∧ k ≤ 7 ∧ k ≤ l.length ∧ varL (num (l.take k)) = l.take k
theorem Good.at_ {l : List UInt8} {k j : Nat} {b : UInt8} (h : Good l k) (hj : j < k) (hb : l[j]? = some b) : b.toNat < 128 ↔ j + 1 = k := by
  obtain ⟨h1, h2, h3, h4⟩ := h
  have hs := (varL_shape (num (l.take k))).2 j b (by rw [h4, List.getElem?_take, if_pos hj]; exact hb)
  rw [hs, h4, List.length_take, Nat.min_eq_left h3]
theorem Good.uniq {l : List UInt8} {k k' : Nat} (h : Good l k) (h' : Good l k') : k = k' := by
  have key : ∀ a b, Good l a → Good l b → a < b → False := fun a b ha hb hab => by
    have h0 := ha.1
    have hl := ha.2.2.1
    obtain ⟨x, hx⟩ : ∃ x, l[a - 1]? = some x := ⟨_, List.getElem?_eq_getElem (by omega)⟩
    have h1 := (ha.at_ (j := a - 1) (by omega) hx).2 (by omega)
    have h2 := (hb.at_ (j := a - 1) (by omega) hx).1 h1
    omega
  rcases Nat.lt_trichotomy k k' with h1 | h1 | h1
  · exact (key _ _ h h' h1).elim
  · exact h1
  · exact (key _ _ h' h h1).elim
open Classical in
noncomputable def rvK (l : List UInt8) : Nat := if h : ∃ k, Good l k then h.choose else 0
noncomputable def rvN (l : List UInt8) : Nat := num (l.take (rvK l))
theorem rvK_good {l : List UInt8} {k : Nat} (h : Good l k) : rvK l = k := by
  have he : ∃ k, Good l k := ⟨k, h⟩
  unfold rvK
  rw [dif_pos he]
  exact he.choose_spec.uniq h
theorem rvK_none {l : List UInt8} (h : ∀ k, ¬ Good l k) : rvK l = 0 := by
  unfold rvK
  rw [dif_neg fun ⟨k, hk⟩ => h k hk]
theorem rvN_good {l : List UInt8} {k : Nat} (h : Good l k) : rvN l = num (l.take k) := by rw [rvN, rvK_good h]
theorem rvN_none {l : List UInt8} (h : ∀ k, ¬ Good l k) : rvN l = 0 := by rw [rvN, rvK_none h]; rfl
/-- The first i bytes bear the mark. -/
def Marked (l : List UInt8) (i : Nat) : Prop := ∀ j b, j < i → l[j]? = some b → 128 ≤ b.toNat
theorem Marked.no {l : List UInt8} {i k : Nat} (h : Marked l i) (hk : k ≤ i) : ¬ Good l k := fun g => by
  have h0 := g.1
  have hl := g.2.2.1
  obtain ⟨x, hx⟩ : ∃ x, l[k - 1]? = some x := ⟨_, List.getElem?_eq_getElem (by omega)⟩
  have h1 := (g.at_ (j := k - 1) (by omega) hx).2 (by omega)
  have h2 := h (k - 1) x (by omega) hx
  omega
theorem marked_end {l : List UInt8} {i : Nat} (h : Marked l i) (hi : 7 ≤ i ∨ l.length ≤ i) : ∀ k, ¬ Good l k := fun k g => by
  by_cases hk : k ≤ i
  · exact h.no hk g
  · have h1 := g.2.1; have h2 := g.2.2.1; omega
theorem marked_stop {l : List UInt8} {i : Nat} {b : UInt8} (h : Marked l i) (hb : l[i]? = some b) (hlt : b.toNat < 128) (hn : ¬ Good l (i + 1)) : ∀ k, ¬ Good l k := fun k g => by
  by_cases hk : k ≤ i
  · exact h.no hk g
  · by_cases e : k = i + 1
    · subst e; exact hn g
    · have := (g.at_ (j := i) (by omega) hb).1 hlt; omega
theorem Marked.succ {l : List UInt8} {i : Nat} {b : UInt8} (h : Marked l i) (hb : l[i]? = some b) (hge : 128 ≤ b.toNat) : Marked l (i + 1) := fun j c hj hc => by
  by_cases e : j = i
  · subst e; rw [hb] at hc; injection hc with hc; subst hc; exact hge
  · exact h j c (by omega) hc
theorem num_lt7 {l : List UInt8} {k : Nat} (h : k ≤ 7) : num (l.take k) ≤ 562949953421311 := by
  have h1 := num_lt (l.take k)
  have h2 : (l.take k).length ≤ 7 := by rw [List.length_take]; omega
  have h3 : 128 ^ (l.take k).length ≤ 128 ^ 7 := Nat.pow_le_pow_right (by omega) h2
  have h4 : 128 ^ 7 = 562949953421312 := by decide
  omega
theorem varOf_num {l : List UInt8} {k : Nat} (h : k ≤ 7) : varOf ((num (l.take k) : Nat) : Int) = ⟨(varL (num (l.take k))).toArray⟩ := by
  have := num_lt7 (l := l) h
  unfold varOf
  rw [if_pos ⟨by omega, by omega⟩]
  simp
end Go.Proofs.Ytbclkgjjmpipfaa
