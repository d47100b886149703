/- Marks in data with depth: what the laws' mark functions leave, and how one element of an owned slice changes. No condition. -/
import Derived.Test.YtfacckjfoajijaaGreatDeep
namespace Go.Proofs.YtfacckjfoajijaaGreat
open Go.ChangeShapes Go.WideShapes Go.ChangeAt Go.RowKit Go.Deep

/-- How many marks a list takes. -/
def ctl {α : Type} (f : α → Nat) : List α → Nat
  | [] => 0
  | a :: l => f a + ctl f l
/-- A list, marked from q on. -/
def mkl {α : Type} (g : Int → α → α) (f : α → Nat) (q : Int) : List α → List α
  | [] => []
  | x :: l => g q x :: mkl g f (q + f x) l
section
variable {α : Type} {g : Int → α → α} {f : α → Nat}
theorem mkl_len (q : Int) (l : List α) : (mkl g f q l).length = l.length := by
  induction l generalizing q with
  | nil => rfl
  | cons x l ih => simp [mkl, ih]
theorem mkl_get {l : List α} {k : Nat} {x : α} (h : l[k]? = some x) : ∀ q : Int, (mkl g f q l)[k]? = some (g (q + ctl f (l.take k)) x) := by
  induction l generalizing k with
  | nil => simp at h
  | cons y l ih =>
    intro q
    rcases k with _ | k
    · simp at h; subst h; simp [mkl, ctl]
    · simp only [List.getElem?_cons_succ] at h
      simp only [mkl, List.getElem?_cons_succ, List.take_succ_cons, ctl]
      rw [ih h]
      congr 2
      omega
theorem ctl_take {l : List α} {k : Nat} {x : α} (h : l[k]? = some x) : ctl f (l.take (k + 1)) = ctl f (l.take k) + f x := by
  induction l generalizing k with
  | nil => simp at h
  | cons y l ih =>
    rcases k with _ | k
    · simp at h; subst h; simp [ctl]
    · simp only [List.getElem?_cons_succ] at h
      simp only [List.take_succ_cons, ctl, ih h]
      omega
theorem ctl_le (l : List α) (k : Nat) : ctl f (l.take k) ≤ ctl f l := by
  induction l generalizing k with
  | nil => simp [ctl]
  | cons b l ih =>
    rcases k with _ | k
    · simp [ctl]
    · simp only [List.take_succ_cons, ctl]; have := ih k; omega
theorem ctl_bound {l : List α} {wt : α → Nat} {b : Nat} (h : ∀ x, f x ≤ b * (wt x + 1)) : ctl f l ≤ b * wtl wt l := by
  induction l with
  | nil => simp [ctl, wtl]
  | cons x l ih =>
    simp only [ctl, wtl]
    have := h x
    rw [Nat.mul_add]
    omega
/-- The first k marked. -/
def mixl (g : Int → α → α) (f : α → Nat) (q : Int) (l : List α) (k : Nat) : List α := (mkl g f q l).take k ++ l.drop k
theorem mixl_zero (q : Int) (l : List α) : mixl g f q l 0 = l := by simp [mixl]
theorem mixl_all {q : Int} {l : List α} {n : Nat} (h : l.length = n) : mixl g f q l n = mkl g f q l := by
  subst h
  have h1 := mkl_len (g := g) (f := f) q l
  simp only [mixl, List.drop_length, List.append_nil]
  rw [List.take_of_length_le (by omega)]
theorem mixl_len (q : Int) (l : List α) (k : Nat) : (mixl g f q l k).length = l.length := by
  simp only [mixl, List.length_append, List.length_take, List.length_drop, mkl_len]
  omega
theorem mixl_at {q : Int} {l : List α} {k : Nat} {x : α} (h : l[k]? = some x) : (mixl g f q l k)[k]? = some x := by
  have hk := (List.getElem?_eq_some_iff.1 h).1
  have h1 := mkl_len (g := g) (f := f) q l
  rw [mixl, List.getElem?_append_right (by rw [List.length_take]; omega), List.length_take, Nat.min_eq_left (by omega), Nat.sub_self, List.getElem?_drop, Nat.add_zero, h]
theorem mixl_next {q : Int} {l : List α} {k : Nat} {x : α} (h : l[k]? = some x) : mixl g f q l (k + 1) = (mixl g f q l k).set k (g (q + ctl f (l.take k)) x) := by
  have hk := (List.getElem?_eq_some_iff.1 h).1
  have h1 := mkl_len (g := g) (f := f) q l
  have h2 := mkl_get (g := g) (f := f) h q
  apply List.ext_getElem?
  intro i
  rw [List.getElem?_set]
  by_cases e : k = i
  · subst e
    rw [if_pos rfl, if_pos (by rw [mixl_len]; exact hk), mixl, List.getElem?_append_left (by rw [List.length_take]; omega), List.getElem?_take, if_pos (by omega), h2]
  · rw [if_neg e]
    simp only [mixl]
    by_cases hi : i < k
    · rw [List.getElem?_append_left (by rw [List.length_take]; omega), List.getElem?_append_left (by rw [List.length_take]; omega), List.getElem?_take, List.getElem?_take, if_pos (by omega), if_pos hi]
    · rw [List.getElem?_append_right (by rw [List.length_take]; omega), List.getElem?_append_right (by rw [List.length_take]; omega), List.getElem?_drop, List.getElem?_drop, List.length_take, List.length_take]
      congr 1
      omega
end
section
variable {α : Type} {W : Rd α} {size n c : Nat} {w w' : World} {S T : Nat → Prop} {A : Option Addr} {l : List α} {e : TypeId} {cs cs' : List Value} {lab : Nat → Nat}
/-- One element's row is another one. -/
theorem WRows.set_ {k : Nat} {row' : List Value} {x' : α} (G : Good W size) (h : WRows W size w S lab cs l n) (hl : l.length = n) (hk : k < n) (hc : Chg T w w') (hT : ∀ g, T g → S g → lab g = 0 ∨ lab g = k + 1) (hold : ∀ j, (j < k * size ∨ (k + 1) * size ≤ j) → cs'[j]? = cs[j]?) (hw : W w' (fun g => S g ∧ lab g = k + 1) row' x') (hnew : ∀ j, j < size → cs'[k * size + j]? = row'[j]?) :
    WRows W size w' S lab cs' (l.set k x') n := by
  intro i hi y hy
  rw [List.getElem?_set] at hy
  by_cases ek : k = i
  · subst ek
    rw [if_pos rfl, if_pos (by omega)] at hy
    injection hy with hy
    subst hy
    exact ⟨row', hw, hnew⟩
  · rw [if_neg ek] at hy
    obtain ⟨r, hr, hj⟩ := h i hi y hy
    refine ⟨r, G.chg hr hc fun g hg ht => ?_, fun j hjs => ?_⟩
    · have h1 := hT g ht hg.1
      have h2 := hg.2
      omega
    · rw [hold]
      · exact hj j hjs
      · by_cases hik : i < k
        · left
          have : (i + 1) * size ≤ k * size := Nat.mul_le_mul_right _ (by omega)
          rw [Nat.succ_mul] at this
          omega
        · right
          have : (k + 1) * size ≤ i * size := Nat.mul_le_mul_right _ (by omega)
          omega
/-- The block of an owned slice that has elements, and the cells of one of them. -/
theorem OwS.at_ {k : Nat} (h : OwS w S e size A n c cs) (hk : k < n) : ∃ g, A = some ⟨g, 0, none⟩ ∧ S g ∧ g < w.heap.size ∧ ∀ j, j < size → ∃ v, cs[k * size + j]? = some v ∧ w.cell? ⟨g, k * size + j, none⟩ = some v ∧ w.frozen? ⟨g, k * size + j, none⟩ = false := by
  obtain ⟨g, rfl⟩ : ∃ g, A = some ⟨g, 0, none⟩ := by
    rcases h.1.2 with ⟨hv, h0⟩ | ⟨g, cap, cur, hv, _⟩
    · omega
    · injection hv with h1; exact ⟨g, h1⟩
  refine ⟨g, rfl, h.2 g rfl, (h.1.lt g rfl).2, fun j hj => ?_⟩
  have hm : k * size + j < n * size := by
    have : (k + 1) * size ≤ n * size := Nat.mul_le_mul_right _ hk
    rw [Nat.succ_mul] at this
    omega
  have hlt : k * size + j < cs.length := by rw [h.1.1]; exact hm
  refine ⟨cs[k * size + j], List.getElem?_eq_getElem hlt, ?_, h.1.frozenAt _⟩
  rw [h.1.cellAt _ hm]
  exact List.getElem?_eq_getElem hlt
end
end Go.Proofs.YtfacckjfoajijaaGreat
