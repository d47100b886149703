/- How the arguments read: slices of flat elements. No condition. -/
import Derived.Test.YtglplgbhhnmgbaaGreatMem
import Derived.ProofKit
import Derived.OpenShut
import Derived.ShutString
import Derived.ChangeOld
import Derived.Deep.Slices
import Derived.Deep.Fields
namespace Go.Proofs.YtglplgbhhnmgbaaGreat
open Go.ChangeShapes Go.WideShapes Go.ChangeAt Go.RowKit Go.Deep

section
variable {H : Type} {enc : TypeId × Value → H} {P : Program} {w : World} {base : Nat} {spare : Nat → Bool} {held : Bool}

/-- What comes in at type t reads as an α: its cells are related to it by R. -/
def Opens {α : Type} (P : Program) (t : TypeId) (R : World → List Value → α → Prop) : Prop :=
  ∀ (H : Type) (enc : TypeId × Value → H) (w : World) (base : Nat) (spare : Nat → Bool) (held : Bool) (fuel : Nat) (cs : List Value) (x : DataW H × List MemPlace),
    DataW.trod enc P w base spare held fuel t cs = some x → ∃ a, R w cs a

theorem opens_int {t : TypeId} {k : IntKind} (ht : P.underlying t = some (.int k)) : Opens P t (fun _ cs (z : Int) => cs = [.int k z] ∧ (Lit.int k z).wf = true) := by
  intro H enc w base spare held fuel cs x h
  obtain ⟨n, h1, _, h3⟩ := DataW.trod_int ht h
  exact ⟨n, h1, h3⟩
theorem opens_bool {t : TypeId} (ht : P.underlying t = some .bool) : Opens P t (fun _ cs (z : Bool) => cs = [.bool z]) := by
  intro H enc w base spare held fuel cs x h
  obtain ⟨n, h1, _⟩ := DataW.trod_bool ht h
  exact ⟨n, h1⟩

theorem flat_length {α : Type} {size : Nat} {cells : α → List Value} (hs : ∀ a, (cells a).length = size) (l : List α) : (l.flatMap cells).length = l.length * size := by
  induction l with
  | nil => simp
  | cons a l ih => simp [List.flatMap_cons, ih, hs, Nat.add_mul, Nat.add_comm]
theorem flat_get {α : Type} {size : Nat} {cells : α → List Value} (hs : ∀ a, (cells a).length = size) : ∀ (l : List α) (i j : Nat) (a : α), l[i]? = some a → j < size → (l.flatMap cells)[i * size + j]? = (cells a)[j]? := by
  intro l
  induction l with
  | nil => intro i j a h; simp at h
  | cons b l ih =>
    intro i j a h hj
    cases i with
    | zero =>
      simp at h
      subst h
      rw [List.flatMap_cons, Nat.zero_mul, Nat.zero_add, List.getElem?_append_left (by rw [hs]; exact hj)]
    | succ i =>
      simp at h
      rw [List.flatMap_cons, List.getElem?_append_right (by rw [hs, Nat.succ_mul]; omega), hs]
      rw [show (i + 1) * size + j - size = i * size + j by rw [Nat.succ_mul]; omega]
      exact ih i j a h hj

/-- A slice of flat elements that came in. -/
theorem opens_flat {α : Type} [Inhabited α] {t e : TypeId} {size : Nat} {cells : α → List Value} {good : α → Prop} (ht : P.underlying t = some (.slice e)) (hc : P.cellsOf e = size)
    (hpos : 0 < size) (hlen : ∀ a, (cells a).length = size) (he : Opens P e (fun _ cs a => cs = cells a ∧ good a)) :
    Opens P t (fun w cs (l : List α) => ∃ A n c, cs = [.slice A n c] ∧ n ≤ c ∧ c ≤ maxLen ∧ l.length = n ∧ (∀ a ∈ l, good a) ∧ Sl w (fun _ => True) size A n (l.flatMap cells)) := by
  intro H enc w base spare held fuel cs x h
  rcases open_slice ht h with ⟨rfl, -⟩ | ⟨a, len, cap, m, n, D, Pl, rfl, -, hl, hm, hmm, -, hi⟩
  · exact ⟨[], none, 0, 0, rfl, Nat.le_refl _, by simp [maxLen], rfl, by simp, by simp, fun hn => absurd hn (Nat.lt_irrefl _)⟩
  have hlm : len ≤ m := by rw [hmm]; split <;> omega
  obtain ⟨f, hf⟩ := choose_lt (n := len) (p := fun i s => w.cells? base (a.add (i * size)) size = some (cells s) ∧ good s) (fun i hil => by
    obtain ⟨cs', hc', ht'⟩ := hi i (by omega)
    obtain ⟨s, rfl, hg⟩ := he H enc w base spare held n cs' _ ht'
    rw [hc] at hc'
    exact ⟨s, hc', hg⟩)
  refine ⟨(List.range len).map f, some a, len, cap, rfl, hl, hm, by simp, ?_, ?_, ?_⟩
  · intro s hs
    obtain ⟨i, hi', rfl⟩ := List.mem_map.1 hs
    exact (hf i (List.mem_range.1 hi')).2
  · rw [flat_length hlen]; simp
  · intro hn
    have hget : ∀ i j, i < len → j < size → w.cell? (a.add (i * size + j)) = (cells (f i))[j]? := by
      intro i j hil hj
      obtain ⟨_, hcl, hat⟩ := World.cells?_some (hf i hil).1
      have := hat j hj
      rw [← Go.Deep.add_add]
      exact this
    have h0 := hget 0 0 hn (by omega)
    rw [show 0 * size + 0 = 0 by omega] at h0
    have hsome : (cells (f 0))[0]? = some ((cells (f 0))[0]'(by rw [hlen]; omega)) := List.getElem?_eq_getElem _
    rw [hsome] at h0
    obtain ⟨b, o, sp⟩ := a
    have hsp : sp = none := by simpa [Addr.add] using World.cell?_spot h0
    subst hsp
    have hblk : b < w.heap.size := World.block_lt_of_cell? _ _ (by simpa [Addr.add] using h0)
    refine ⟨b, o, rfl, trivial, hblk, fun j hj => ?_⟩
    have hq : j / size < len := (Nat.div_lt_iff_lt_mul (by omega)).2 hj
    have hr : j % size < size := Nat.mod_lt _ (by omega)
    have h1 := hget (j / size) (j % size) hq hr
    have hd : j / size * size + j % size = j := by rw [Nat.mul_comm]; exact Nat.div_add_mod _ _
    have h2 := flat_get (cells := cells) hlen ((List.range len).map f) (j / size) (j % size) (f (j / size)) (by simp [hq]) hr
    rw [hd] at h1 h2
    rw [h2, ← h1]
    congr 1
    unfold Addr.add
    split <;> simp_all

theorem flat_ints (l : List Int) : l.flatMap (fun z => [Value.int .i64 z]) = ints l := by
  induction l with
  | nil => rfl
  | cons a l ih => simp [List.flatMap_cons, ih, ints]
theorem opens_ints {t e : TypeId} (ht : P.underlying t = some (.slice e)) (he : P.underlying e = some (.int .i64)) (hc : P.cellsOf e = 1) :
    Opens P t (fun w cs (l : List Int) => ∃ A n c, cs = [.slice A n c] ∧ n ≤ c ∧ c ≤ maxLen ∧ l.length = n ∧ (∀ a ∈ l, (Lit.int .i64 a).wf = true) ∧ Sl w (fun _ => True) 1 A n (ints l)) := by
  intro H enc w base spare held fuel cs x h
  obtain ⟨l, A, n, c, h1, h2, h3, h4, h5, h6⟩ := opens_flat (cells := fun z : Int => [Value.int .i64 z]) ht hc (by omega) (fun _ => rfl) (opens_int he) H enc w base spare held fuel cs x h
  exact ⟨l, A, n, c, h1, h2, h3, h4, h5, by rw [← flat_ints]; exact h6⟩

/-- A struct of one-cell fields that came in: each field on its own. -/
theorem trod_fields {t : TypeId} {fs : Array Field} {fuel : Nat} {cs : List Value} {x : DataW H × List MemPlace} (ht : P.underlying t = some (.struct fs)) (hone : oneCellFields P fs = true) (hC : P.cellsOf t = fs.size)
    (h : DataW.trod enc P w base spare held fuel t cs = some x) :
    cs.length = fs.size ∧ ∃ n, ∀ (j : Nat) (f : Field), fs[j]? = some f → ∃ v y, cs[j]? = some v ∧ DataW.trod enc P w base spare held n f.type [v] = some y := by
  obtain ⟨ys, n, _, _, hlen, hyl, hf⟩ := DataW.trod_struct ht h
  refine ⟨hlen.trans hC, n, fun j f hj => ?_⟩
  obtain ⟨ho, hk⟩ := hone_of hone j f hj
  have hjl : j < fs.size := (Array.getElem?_eq_some_iff.1 hj).1
  have hcl : j < cs.length := by omega
  have h1 := hf j f hj
  rw [ho, hk, List.drop_eq_getElem_cons hcl] at h1
  have hys : ys[j]? = some (ys[j]'(by omega)) := List.getElem?_eq_getElem (by omega)
  exact ⟨_, _, List.getElem?_eq_getElem hcl, h1.trans hys⟩
end

theorem Sl.flat_at {α : Type} {cells : α → List Value} {size : Nat} (hc : ∀ a, (cells a).length = size) (hp : 0 < size) {w : World} {S : Nat → Prop} {A : Option Addr} {n k : Nat} {l : List α} (h : Sl w S size A n (l.flatMap cells)) (hk : k < n) :
    ∃ b o s, A = some ⟨b, o, none⟩ ∧ b < w.heap.size ∧ l[k]? = some s ∧ ∀ j, j < size → w.cell? ⟨b, o + k * size + j, none⟩ = (cells s)[j]? := by
  obtain ⟨b, o, e, _, hb, hcell⟩ := h.2 (by omega)
  have hl : l.length = n := by
    have h1 := h.1
    rw [flat_length hc] at h1
    exact Nat.eq_of_mul_eq_mul_right hp h1
  have hx : l[k]? = some (l[k]'(by omega)) := List.getElem?_eq_getElem (by omega)
  refine ⟨b, o, l[k]'(by omega), e, hb, hx, fun j hj => ?_⟩
  have hm : k * size + j < n * size := by
    have : (k + 1) * size ≤ n * size := Nat.mul_le_mul_right _ hk
    rw [Nat.succ_mul] at this
    omega
  rw [Nat.add_assoc, hcell _ hm, flat_get hc l k j _ hx hj]

/-- The cells of one element of a row of the call's own. -/
theorem own_flat {w : World} {base : Nat} {e : TypeId} {size : Nat} {A : Option Addr} {n c k : Nat} {cs : List Value} (h : w.ownsRow base e size (.slice A n c) n cs) (hk : k < n) :
    ∃ g, A = some ⟨g, 0, none⟩ ∧ base ≤ g ∧ g < w.heap.size ∧ ∀ j, j < size → ∃ v, w.cell? ⟨g, k * size + j, none⟩ = some v ∧ w.frozen? ⟨g, k * size + j, none⟩ = false := by
  obtain ⟨g, rfl⟩ : ∃ g, A = some ⟨g, 0, none⟩ := by
    rcases h.2 with ⟨hv, h0⟩ | ⟨g, cap, cur, hv, _⟩
    · omega
    · injection hv with h1; exact ⟨g, h1⟩
  refine ⟨g, rfl, (h.lt g rfl).1, (h.lt g rfl).2, fun j hj => ?_⟩
  have hm : k * size + j < n * size := by
    have : (k + 1) * size ≤ n * size := Nat.mul_le_mul_right _ hk
    rw [Nat.succ_mul] at this
    omega
  refine ⟨cs[k * size + j]'(by rw [h.1]; exact hm), ?_, h.frozenAt _⟩
  rw [h.cellAt _ hm]
  exact List.getElem?_eq_getElem _

/-- The first k cells are as they should be. -/
def Upto (cs ds : List Value) (k : Nat) : Prop := ∀ j, j < k → cs[j]? = ds[j]?
theorem Upto.zero (cs ds : List Value) : Upto cs ds 0 := fun _ hj => absurd hj (Nat.not_lt_zero _)
theorem Upto.set1 {cs ds : List Value} {k : Nat} {v : Value} (h : Upto cs ds k) (hk : k < cs.length) (hv : ds[k]? = some v) : Upto (cs.set k v) ds (k + 1) := by
  intro j hj
  rw [List.getElem?_set]
  by_cases e : k = j
  · subst e; simp [hk, hv]
  · rw [if_neg e]; exact h j (by omega)
theorem Upto.all {cs ds : List Value} {k : Nat} (h : Upto cs ds k) (h1 : cs.length = k) (h2 : ds.length = k) : cs = ds := by
  apply List.ext_getElem?
  intro j
  by_cases hj : j < k
  · exact h j hj
  · rw [List.getElem?_eq_none (by omega), List.getElem?_eq_none (by omega)]

theorem Sl.addr {w : World} {S : Nat → Prop} {A : Option Addr} {size n : Nat} {xs : List Value} (h : Sl w S size A n xs) (hn : 0 < n) : ∃ b o, A = some ⟨b, o, none⟩ := by
  obtain ⟨b, o, e, _⟩ := h.2 hn
  exact ⟨b, o, e⟩
theorem Sl.flen {α : Type} {cells : α → List Value} {size : Nat} (hc : ∀ a, (cells a).length = size) (hp : 0 < size) {w : World} {S : Nat → Prop} {A : Option Addr} {n : Nat} {l : List α} (h : Sl w S size A n (l.flatMap cells)) : l.length = n := by
  have h1 := h.1
  rw [flat_length hc] at h1
  exact Nat.eq_of_mul_eq_mul_right hp h1
theorem Sl.flat_cell {α : Type} {cells : α → List Value} {size : Nat} (hc : ∀ a, (cells a).length = size) (hp : 0 < size) {w : World} {S : Nat → Prop} {b o n k : Nat} {l : List α} (h : Sl w S size (some ⟨b, o, none⟩) n (l.flatMap cells)) (hk : k < n) :
    ∃ s, l[k]? = some s ∧ b < w.heap.size ∧ ∀ j, j < size → w.cell? ⟨b, o + k * size + j, none⟩ = (cells s)[j]? := by
  obtain ⟨b', o', s, e, hb, hx, hcell⟩ := h.flat_at hc hp hk
  injection e with e
  injection e with e1 e2
  subst e1 e2
  exact ⟨s, hx, hb, hcell⟩
theorem Sl.int_cell {w : World} {S : Nat → Prop} {b o n k : Nat} {l : List Int} (h : Sl w S 1 (some ⟨b, o, none⟩) n (ints l)) (hk : k < n) :
    ∃ x, l[k]? = some x ∧ b < w.heap.size ∧ w.cell? ⟨b, o + k, none⟩ = some (.int .i64 x) := by
  obtain ⟨b', o', x, e, hb, hx, hcell⟩ := h.int_at hk
  injection e with e
  injection e with e1 e2
  subst e1 e2
  exact ⟨x, hx, hb, hcell⟩

end Go.Proofs.YtglplgbhhnmgbaaGreat
