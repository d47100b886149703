/- Data with depth: structs with slices inside, slices of such structs: how they read, and how they are owned. No condition. -/
import Derived.Test.YtglplgbhhnmgbaaGreatOpen
namespace Go.Proofs.YtglplgbhhnmgbaaGreat
open Go.ChangeShapes Go.WideShapes Go.ChangeAt Go.RowKit Go.Deep

/-- A reading: in the world, with all that it leads to among S, the cells show an element. -/
abbrev Rd (α : Type) := World → (Nat → Prop) → List Value → α → Prop

/-- A reading of cells in the given number that stands as long as what it leads to stands. -/
structure Good {α : Type} (R : Rd α) (size : Nat) : Prop where
  len : ∀ {w : World} {S : Nat → Prop} {cs : List Value} {a : α}, R w S cs a → cs.length = size
  chg : ∀ {w w' : World} {S T : Nat → Prop} {cs : List Value} {a : α}, R w S cs a → Chg T w w' → (∀ i, S i → ¬ T i) → R w' S cs a
  mono : ∀ {w : World} {S T : Nat → Prop} {cs : List Value} {a : α}, R w S cs a → (∀ i, S i → T i) → R w T cs a

section
variable {α : Type} {R W : Rd α} {size n c : Nat} {w w' : World} {S T U : Nat → Prop} {A : Option Addr} {l : List α} {e : TypeId} {cs xs : List Value}
theorem Good.ext {a : α} (G : Good R size) (h : R w S cs a) (k : Ext w w') : R w' S cs a := G.chg h (k.chg fun _ => False) fun _ _ q => q

/-- A slice whose elements have depth. -/
def SlR (R : Rd α) (size : Nat) (w : World) (S : Nat → Prop) (A : Option Addr) (n : Nat) (l : List α) : Prop :=
  l.length = n ∧ (0 < n → ∃ b o, A = some ⟨b, o, none⟩ ∧ S b ∧ b < w.heap.size ∧ ∀ k x, l[k]? = some x → ∃ row, R w S row x ∧ ∀ j, j < size → w.cell? ⟨b, o + k * size + j, none⟩ = row[j]?)
theorem SlR.chg (G : Good R size) (h : SlR R size w S A n l) (k : Chg T w w') (hd : ∀ i, S i → ¬ T i) : SlR R size w' S A n l :=
  ⟨h.1, fun hn => by
    obtain ⟨b, o, e, hs, hb, hc⟩ := h.2 hn
    refine ⟨b, o, e, hs, Nat.lt_of_lt_of_le hb k.size, fun i x hx => ?_⟩
    obtain ⟨row, hr, hj⟩ := hc i x hx
    exact ⟨row, G.chg hr k hd, fun j hjs => (World.cell?_of_block (w := w) (a := ⟨b, o + i * size + j, none⟩) (k.block b hb (hd b hs))).trans (hj j hjs)⟩⟩
theorem SlR.ext (G : Good R size) (h : SlR R size w S A n l) (k : Ext w w') : SlR R size w' S A n l := h.chg G (k.chg fun _ => False) fun _ _ q => q
theorem SlR.mono (G : Good R size) (h : SlR R size w S A n l) (hs : ∀ i, S i → T i) : SlR R size w T A n l :=
  ⟨h.1, fun hn => by
    obtain ⟨b, o, e, hs', hb, hc⟩ := h.2 hn
    refine ⟨b, o, e, hs _ hs', hb, fun i x hx => ?_⟩
    obtain ⟨row, hr, hj⟩ := hc i x hx
    exact ⟨row, G.mono hr hs, hj⟩⟩
theorem SlR.addr (h : SlR R size w S A n l) (hn : 0 < n) : ∃ b o, A = some ⟨b, o, none⟩ := by
  obtain ⟨b, o, e, _⟩ := h.2 hn
  exact ⟨b, o, e⟩
theorem SlR.at_ {b o k : Nat} (h : SlR R size w S (some ⟨b, o, none⟩) n l) (hk : k < n) :
    ∃ x row, l[k]? = some x ∧ b < w.heap.size ∧ R w S row x ∧ ∀ j, j < size → w.cell? ⟨b, o + k * size + j, none⟩ = row[j]? := by
  obtain ⟨b', o', e, _, hb, hc⟩ := h.2 (by omega)
  injection e with e
  injection e with e1 e2
  subst e1 e2
  have hl : k < l.length := by have := h.1; omega
  obtain ⟨row, hr, hj⟩ := hc k l[k] (List.getElem?_eq_getElem hl)
  exact ⟨l[k], row, List.getElem?_eq_getElem hl, hb, hr, hj⟩

/-- A slice of the call's own, among S. -/
def OwS (w : World) (S : Nat → Prop) (e : TypeId) (size : Nat) (A : Option Addr) (n c : Nat) (xs : List Value) : Prop :=
  w.ownsRow 0 e size (.slice A n c) n xs ∧ ∀ g, (Value.slice A n c).ownBlock = some g → S g
theorem OwS.of_own {b : Nat} (h : w.ownsRow b e size (.slice A n c) n xs) : OwS w (fun g => b ≤ g ∧ g < w.heap.size) e size A n c xs :=
  ⟨own_base h (Nat.zero_le _), fun g hg => h.lt g hg⟩
theorem OwS.chg (h : OwS w S e size A n c xs) (k : Chg T w w') (hd : ∀ i, S i → ¬ T i) : OwS w' S e size A n c xs :=
  ⟨own_chg h.1 k fun g hg => hd g (h.2 g hg), h.2⟩
theorem OwS.mono (h : OwS w S e size A n c xs) (hs : ∀ i, i < w.heap.size → S i → T i) : OwS w T e size A n c xs := ⟨h.1, fun g hg => hs g (h.1.lt g hg).2 (h.2 g hg)⟩
theorem OwS.sl (h : OwS w S e size A n c xs) : Sl w S size A n xs := by
  have h1 := Sl.of_own h.1
  refine ⟨h1.1, fun hn => ?_⟩
  obtain ⟨b, o, e1, hb, hlt, hc⟩ := h1.2 hn
  refine ⟨b, o, e1, ?_, hlt, hc⟩
  rcases h.1.2 with ⟨_, h0⟩ | ⟨g, cap, cur, hv, _⟩
  · omega
  · injection hv with hv1
    rw [e1] at hv1
    injection hv1 with hv1
    injection hv1 with hv1 hv2
    subst hv1 hv2
    exact h.2 b (by subst e1; rfl)

/-- The rows of the first k elements, each in a part of S of its own. -/
def WRows (W : Rd α) (size : Nat) (w : World) (S : Nat → Prop) (lab : Nat → Nat) (cs : List Value) (l : List α) (k : Nat) : Prop :=
  ∀ i, i < k → ∀ x, l[i]? = some x → ∃ row, W w (fun g => S g ∧ lab g = i + 1) row x ∧ ∀ j, j < size → cs[i * size + j]? = row[j]?
/-- A slice of the call's own, its elements with depth, all of them the call's own. -/
def SlW (W : Rd α) (e : TypeId) (size : Nat) (w : World) (S : Nat → Prop) (A : Option Addr) (n c : Nat) (l : List α) : Prop :=
  l.length = n ∧ ∃ (cs : List Value) (lab : Nat → Nat), OwS w (fun g => S g ∧ lab g = 0) e size A n c cs ∧ WRows W size w S lab cs l n
theorem SlW.chg (G : Good W size) (h : SlW W e size w S A n c l) (k : Chg T w w') (hd : ∀ i, S i → ¬ T i) : SlW W e size w' S A n c l := by
  obtain ⟨h1, cs, lab, ho, hr⟩ := h
  refine ⟨h1, cs, lab, ho.chg k fun i hi => hd i hi.1, fun i hi x hx => ?_⟩
  obtain ⟨row, hw, hj⟩ := hr i hi x hx
  exact ⟨row, G.chg hw k fun i hi => hd i hi.1, hj⟩
theorem SlW.ext (G : Good W size) (h : SlW W e size w S A n c l) (k : Ext w w') : SlW W e size w' S A n c l := h.chg G (k.chg fun _ => False) fun _ _ q => q
theorem SlW.mono (G : Good W size) (h : SlW W e size w S A n c l) (hs : ∀ i, S i → T i) : SlW W e size w T A n c l := by
  obtain ⟨h1, cs, lab, ho, hr⟩ := h
  refine ⟨h1, cs, lab, ho.mono fun i _ hi => ⟨hs i hi.1, hi.2⟩, fun i hi x hx => ?_⟩
  obtain ⟨row, hw, hj⟩ := hr i hi x hx
  exact ⟨row, G.mono hw fun i hi => ⟨hs i hi.1, hi.2⟩, hj⟩
theorem SlW.slr (G : Good R size) (hWR : ∀ {w : World} {S : Nat → Prop} {cs : List Value} {a : α}, W w S cs a → R w S cs a) (h : SlW W e size w S A n c l) : SlR R size w S A n l := by
  obtain ⟨h1, cs, lab, ho, hr⟩ := h
  refine ⟨h1, fun hn => ?_⟩
  obtain ⟨b, o, e1, hb, hlt, hc⟩ := ho.sl.2 hn
  refine ⟨b, o, e1, hb.1, hlt, fun i x hx => ?_⟩
  have hi : i < n := by have := (List.getElem?_eq_some_iff.1 hx).1; omega
  obtain ⟨row, hw, hj⟩ := hr i hi x hx
  refine ⟨row, G.mono (hWR hw) fun g hg => hg.1, fun j hjs => ?_⟩
  have hm : i * size + j < n * size := by
    have : (i + 1) * size ≤ n * size := Nat.mul_le_mul_right _ hi
    rw [Nat.succ_mul] at this
    omega
  rw [Nat.add_assoc, hc _ hm, hj j hjs]
theorem SlW.cap (h : SlW W e size w S A n c l) : n ≤ c := by
  obtain ⟨_, cs, lab, ho, _⟩ := h
  exact own_cap ho.1
theorem WRows.zero (W : Rd α) (size : Nat) (w : World) (S : Nat → Prop) (lab : Nat → Nat) (cs : List Value) (l : List α) : WRows W size w S lab cs l 0 := fun _ h => absurd h (Nat.not_lt_zero _)
/-- One element more: its parts lie at b and above, all that was lies below. -/
theorem WRows.step {lab : Nat → Nat} {cs cs' row : List Value} {k b : Nat} {x : α} {S' : Nat → Prop} (G : Good W size) (h : WRows W size w S lab cs l k) (hb : ∀ g, S g → g < b) (k1 : Chg T w w') (hT : ∀ g, S g → ¬ T g) (hSS : ∀ g, S g → S' g)
    (hx : l[k]? = some x) (hrow : W w' (fun g => S' g ∧ b ≤ g) row x) (hold : ∀ j, j < k * size → cs'[j]? = cs[j]?) (hnew : ∀ j, j < size → cs'[k * size + j]? = row[j]?) :
    WRows W size w' S' (fun g => if g < b then lab g else k + 1) cs' l (k + 1) := by
  intro i hi y hy
  by_cases e : i = k
  · subst e
    rw [hx] at hy
    injection hy with hy
    subst hy
    exact ⟨row, G.mono hrow fun g hg => ⟨hg.1, if_neg (by have := hg.2; omega)⟩, hnew⟩
  · obtain ⟨r, hr, hj⟩ := h i (by omega) y hy
    refine ⟨r, G.mono (G.chg hr k1 fun g hg => hT g hg.1) fun g hg => ⟨hSS g hg.1, ?_⟩, fun j hjs => ?_⟩
    · exact (if_pos (hb g hg.1)).trans hg.2
    · have hm : i * size + j < k * size := by
        have : (i + 1) * size ≤ k * size := Nat.mul_le_mul_right _ (by omega)
        rw [Nat.succ_mul] at this
        omega
      rw [hold _ hm]
      exact hj j hjs
end

/-- Of a row's cells from p on the first j are laid. -/
def Put (cs : List Value) (p : Nat) (row : List Value) (j : Nat) (cs' : List Value) : Prop := cs'.length = cs.length ∧ (∀ i, i < p → cs'[i]? = cs[i]?) ∧ ∀ i, i < j → cs'[p + i]? = row[i]?
theorem Put.zero (cs : List Value) (p : Nat) (row : List Value) : Put cs p row 0 cs := ⟨rfl, fun _ _ => rfl, fun _ h => absurd h (Nat.not_lt_zero _)⟩
theorem Put.next {cs cs' row : List Value} {p j q : Nat} {v : Value} (h : Put cs p row j cs') (hq : q = p + j) (hp : p + j < cs.length) (hv : row[j]? = some v) : Put cs p row (j + 1) (cs'.set q v) := by
  subst hq
  refine ⟨by rw [List.length_set]; exact h.1, fun i hi => ?_, fun i hi => ?_⟩
  · rw [List.getElem?_set_ne (by omega)]; exact h.2.1 i hi
  · rw [List.getElem?_set]
    by_cases e : i = j
    · subst e; rw [if_pos rfl, if_pos (by rw [h.1]; exact hp), hv]
    · rw [if_neg (by omega)]; exact h.2.2 i (by omega)

/-- The number of the first bound that is above. -/
def lb : List Nat → Nat → Nat
  | [], _ => 0
  | b :: bs, g => if g < b then 0 else lb bs g + 1
theorem lb_here {b g : Nat} {bs : List Nat} (h : g < b) : lb (b :: bs) g = 0 := if_pos h
theorem lb_next {b g j : Nat} {bs : List Nat} (h : b ≤ g) (k : lb bs g = j) : lb (b :: bs) g = j + 1 := by simp only [lb]; rw [if_neg (by omega), k]

/-- What elements weigh: each one more than what lies in it. -/
def wtl {α : Type} (f : α → Nat) : List α → Nat
  | [] => 0
  | a :: l => f a + 1 + wtl f l
theorem wtl_len {α : Type} (f : α → Nat) (l : List α) : l.length ≤ wtl f l := by
  induction l with
  | nil => exact Nat.le_refl _
  | cons a l ih => simp only [wtl, List.length_cons]; omega
theorem wtl_at {α : Type} (f : α → Nat) {l : List α} {k : Nat} {a : α} (h : l[k]? = some a) : f a ≤ wtl f l := by
  induction l generalizing k with
  | nil => simp at h
  | cons b l ih =>
    simp only [wtl]
    rcases k with _ | k
    · simp at h; subst h; omega
    · simp only [List.getElem?_cons_succ] at h; have := ih h; omega
theorem wtl_take {α : Type} (f : α → Nat) {l : List α} {k : Nat} {a : α} (h : l[k]? = some a) : wtl f (l.take (k + 1)) = wtl f (l.take k) + f a + 1 := by
  induction l generalizing k with
  | nil => simp at h
  | cons b l ih =>
    rcases k with _ | k
    · simp at h; subst h; simp [wtl]
    · simp only [List.getElem?_cons_succ] at h
      simp only [List.take_succ_cons, wtl, ih h]
      omega
theorem wtl_le {α : Type} (f : α → Nat) (l : List α) (k : Nat) : wtl f (l.take k) ≤ wtl f l := by
  induction l generalizing k with
  | nil => simp [wtl]
  | cons b l ih =>
    rcases k with _ | k
    · simp [wtl]
    · simp only [List.take_succ_cons, wtl]; have := ih k; omega
theorem wtl_rest {α : Type} (f : α → Nat) (l : List α) (k : Nat) : wtl f (l.take k) + (l.length - k) ≤ wtl f l := by
  induction l generalizing k with
  | nil => simp [wtl]
  | cons b l ih =>
    rcases k with _ | k
    · simp only [List.take_zero, wtl, List.length_cons]; have := wtl_len f l; omega
    · simp only [List.take_succ_cons, wtl, List.length_cons]; have := ih k; omega
/-- What is left of q when k is taken off: -1 if it was not enough. -/
def Left (r q : Int) (k : Nat) : Prop := ((k : Int) ≤ q ∧ r = q - k) ∨ (q < k ∧ r = -1)
theorem Left.of_if {q : Int} {k : Nat} : Left (if (k : Int) ≤ q then q - k else -1) q k := by
  by_cases h : (k : Int) ≤ q
  · exact .inl ⟨h, if_pos h⟩
  · exact .inr ⟨by omega, if_neg h⟩

section
variable {H : Type} {enc : TypeId × Value → H} {P : Program} {w : World} {base : Nat} {spare : Nat → Bool} {held : Bool}
/-- A slice of elements with depth that came in. -/
theorem opens_deep {α : Type} [Inhabited α] {t e : TypeId} {size : Nat} {R : Rd α} (G : Good R size) (ht : P.underlying t = some (.slice e)) (hc : P.cellsOf e = size)
    (hpos : 0 < size) (he : Opens P e (fun w cs a => R w (fun _ => True) cs a)) :
    Opens P t (fun w cs (l : List α) => ∃ A n c, cs = [.slice A n c] ∧ n ≤ c ∧ c ≤ maxLen ∧ SlR R size w (fun _ => True) A n l) := by
  intro H enc w base spare held fuel cs x h
  rcases open_slice ht h with ⟨rfl, -⟩ | ⟨a, len, cap, m, n, D, Pl, rfl, -, hl, hm, hmm, -, hi⟩
  · exact ⟨[], none, 0, 0, rfl, Nat.le_refl _, by simp [maxLen], rfl, fun hn => absurd hn (Nat.lt_irrefl _)⟩
  have hlm : len ≤ m := by rw [hmm]; split <;> omega
  obtain ⟨f, hf⟩ := choose_lt (n := len) (p := fun i s => ∃ row, w.cells? base (a.add (i * size)) size = some row ∧ R w (fun _ => True) row s) (fun i hil => by
    obtain ⟨cs', hc', ht'⟩ := hi i (by omega)
    obtain ⟨s, hg⟩ := he H enc w base spare held n cs' _ ht'
    rw [hc] at hc'
    exact ⟨s, cs', hc', hg⟩)
  refine ⟨(List.range len).map f, some a, len, cap, rfl, hl, hm, by simp, ?_⟩
  intro hn
  have hget : ∀ i, i < len → ∃ row, R w (fun _ => True) row (f i) ∧ ∀ j, j < size → w.cell? (a.add (i * size + j)) = row[j]? := by
    intro i hil
    obtain ⟨row, hcs, hr⟩ := hf i hil
    refine ⟨row, hr, fun j hj => ?_⟩
    obtain ⟨_, hcl, hat⟩ := World.cells?_some hcs
    have := hat j hj
    rw [← Go.Deep.add_add]
    exact this
  obtain ⟨row0, hr0, h0⟩ := hget 0 hn
  have h00 := h0 0 hpos
  rw [show 0 * size + 0 = 0 by omega] at h00
  have hsome : row0[0]? = some (row0[0]'(by rw [G.len hr0]; exact hpos)) := List.getElem?_eq_getElem _
  rw [hsome] at h00
  obtain ⟨b, o, sp⟩ := a
  have hsp : sp = none := by simpa [Addr.add] using World.cell?_spot h00
  subst hsp
  have hblk : b < w.heap.size := World.block_lt_of_cell? _ _ (by simpa [Addr.add] using h00)
  refine ⟨b, o, rfl, trivial, hblk, fun k x hx => ?_⟩
  obtain ⟨hk1, hk2⟩ := List.getElem?_eq_some_iff.1 hx
  have hk : k < len := by simpa using hk1
  obtain ⟨row, hr, hj⟩ := hget k hk
  have hxe : f k = x := by simpa using hk2
  subst hxe
  refine ⟨row, hr, fun j hjs => ?_⟩
  rw [← hj j hjs]
  congr 1
  unfold Addr.add
  split <;> simp_all [Nat.add_assoc]
end
end Go.Proofs.YtglplgbhhnmgbaaGreat
