/- Words for memory: what may have changed between two worlds; a slice that shows a list; rows of the call's own. No condition. -/
import Derived.Test.YtglplgbhhnmgbaaGreatRows
import Derived.WalkKit
import Derived.Lib.Hide
import Derived.Deep.LoopGhost
import Derived.Deep.Cut
import Derived.Deep.Light
import Derived.Deep.Draws
import Derived.Deep.QuietTactic
import Derived.BigQuiet
import Derived.Maps.AppendAt
namespace Go.Proofs.YtglplgbhhnmgbaaGreat
open Go.RowKit

/-- Only blocks of S, and new ones, may have changed. -/
structure Chg (S : Nat → Prop) (w w' : World) : Prop where
  os : w'.os = w.os
  tape : w'.tape = w.tape
  output : w'.output = w.output
  size : w.heap.size ≤ w'.heap.size
  block : ∀ k, k < w.heap.size → ¬ S k → w'.heap[k]? = w.heap[k]?

/-- What was there is as it was. -/
abbrev Ext (w w' : World) : Prop := Below w.heap.size w w'

theorem Ext.refl' (w : World) : Ext w w := Below.refl _ _
theorem Ext.of_eq {a b : World} (h : a = b) : Ext a b := by subst h; exact Below.refl _ _
theorem Ext.tr {a b c : World} (h : Ext a b) (k : Ext b c) : Ext a c := h.trans (k.mono h.size)
theorem Ext.al {a b : World} (h : Ext a b) (o : Obj) : Ext a (b.alloc o) := h.alloc h.size o
theorem Ext.dr {a b : World} (h : Ext a b) : Ext a b.drew := h.drew
theorem Ext.drN {a b : World} (h : Ext a b) (n : Nat) : Ext a (b.drewN n) := ⟨h.os, h.tape, h.output, h.size, h.block⟩
theorem Ext.sc {a b : World} (h : Ext a b) {p : Addr} (hp : a.heap.size ≤ p.block) (u : Value) : Ext a (b.setCell p u) := h.setCell hp u
theorem Ext.chg {a b : World} (h : Ext a b) (S : Nat → Prop) : Chg S a b := ⟨h.os, h.tape, h.output, h.size, fun k hk _ => h.block k hk⟩
theorem Chg.refl (S : Nat → Prop) (w : World) : Chg S w w := ⟨rfl, rfl, rfl, Nat.le_refl _, fun _ _ _ => rfl⟩
theorem Chg.trans {S : Nat → Prop} {a b c : World} (h : Chg S a b) (k : Chg S b c) : Chg S a c :=
  ⟨k.os.trans h.os, k.tape.trans h.tape, k.output.trans h.output, Nat.le_trans h.size k.size, fun i hi hn => (k.block i (Nat.lt_of_lt_of_le hi h.size) hn).trans (h.block i hi hn)⟩
theorem Chg.mono {S T : Nat → Prop} {a b : World} (h : Chg S a b) (hs : ∀ k, S k → T k) : Chg T a b :=
  ⟨h.os, h.tape, h.output, h.size, fun i hi hn => h.block i hi (fun hk => hn (hs i hk))⟩
theorem Chg.dr {S : Nat → Prop} {a b : World} (h : Chg S a b) : Chg S a b.drew := ⟨h.os, h.tape, h.output, h.size, h.block⟩
theorem Chg.drN {S : Nat → Prop} {a b : World} (h : Chg S a b) (n : Nat) : Chg S a (b.drewN n) := ⟨h.os, h.tape, h.output, h.size, h.block⟩
theorem Chg.al {S : Nat → Prop} {a b : World} (h : Chg S a b) (o : Obj) : Chg S a (b.alloc o) :=
  h.trans ((Below.refl b.heap.size b).alloc (Nat.le_refl _) o |> fun (x : Ext b _) => x.chg S)
theorem Chg.grown {S : Nat → Prop} {a b c : World} {row : Option Nat} (h : Chg S a b) (g : b.grownBy c row) (hr : ∀ k, row = some k → S k ∨ a.heap.size ≤ k) : Chg S a c :=
  ⟨g.os.trans h.os, g.tape.trans h.tape, g.output.trans h.output, Nat.le_trans h.size g.size, fun i hi hn =>
    (g.block i (Nat.lt_of_lt_of_le hi h.size) (fun e => by rcases hr i e.symm with q | q; exact hn q; omega)).trans (h.block i hi hn)⟩
/-- What changes only what is new changes nothing that was there. -/
theorem Chg.ext {S : Nat → Prop} {a b c : World} (h : Chg S b c) (k : Ext a b) (hs : ∀ i, S i → a.heap.size ≤ i) : Ext a c :=
  ⟨h.os.trans k.os, h.tape.trans k.tape, h.output.trans k.output, Nat.le_trans k.size h.size, fun i hi => (h.block i (Nat.lt_of_lt_of_le hi k.size) (fun q => by have := hs i q; omega)).trans (k.block i hi)⟩
theorem Ext.grown' {a b c : World} {row : Option Nat} (h : Ext a b) (g : b.grownBy c row) (hr : ∀ k, row = some k → a.heap.size ≤ k) : Ext a c := h.grown g h.size hr

/-- The slice value with address A and n elements of 'size' cells shows the cells xs; its block lies in S. -/
def Sl (w : World) (S : Nat → Prop) (size : Nat) (A : Option Addr) (n : Nat) (xs : List Value) : Prop :=
  xs.length = n * size ∧ (0 < n → ∃ b o, A = some ⟨b, o, none⟩ ∧ S b ∧ b < w.heap.size ∧ ∀ j, j < n * size → w.cell? ⟨b, o + j, none⟩ = xs[j]?)

section
variable {w w' : World} {S T : Nat → Prop} {size n : Nat} {A : Option Addr} {xs : List Value}
theorem Sl.chg (h : Sl w S size A n xs) (k : Chg T w w') (hd : ∀ i, S i → ¬ T i) : Sl w' S size A n xs :=
  ⟨h.1, fun hn => by
    obtain ⟨b, o, e, hs, hb, hc⟩ := h.2 hn
    exact ⟨b, o, e, hs, Nat.lt_of_lt_of_le hb k.size, fun j hj => (World.cell?_of_block (w := w) (a := ⟨b, o + j, none⟩) (k.block b hb (hd b hs))).trans (hc j hj)⟩⟩
theorem Sl.ext (h : Sl w S size A n xs) (k : Ext w w') : Sl w' S size A n xs := h.chg (k.chg fun _ => False) fun _ _ q => q
theorem Sl.mono (h : Sl w S size A n xs) (hs : ∀ i, S i → T i) : Sl w T size A n xs :=
  ⟨h.1, fun hn => by
    obtain ⟨b, o, e, hs', hb, hc⟩ := h.2 hn
    exact ⟨b, o, e, hs _ hs', hb, hc⟩⟩
theorem Sl.of_own {base : Nat} {e : TypeId} {c : Nat} (h : w.ownsRow base e size (.slice A n c) n xs) : Sl w (fun k => base ≤ k ∧ k < w.heap.size) size A n xs := by
  refine ⟨h.1, fun hn => ?_⟩
  rcases h.2 with ⟨hv, h0⟩ | ⟨g, cap, cur, hv, hb, hg, hnc, hcm, hcs, htake⟩
  · omega
  · injection hv with h1 h2 h3
    subst h1
    have hlt : g < w.heap.size := (Array.getElem?_eq_some_iff.1 hg).1
    refine ⟨g, 0, rfl, ⟨hb, hlt⟩, hlt, fun j hj => ?_⟩
    rw [Nat.zero_add]
    rw [cell_of_row w g j cur e (0, 0) hg, ← htake, List.getElem?_take, if_pos hj]
    simp
end

def ints (zs : List Int) : List Value := zs.map (Value.int .i64)
theorem ints_length (zs : List Int) : (ints zs).length = zs.length := by simp [ints]
theorem ints_get (zs : List Int) (k : Nat) : (ints zs)[k]? = zs[k]?.map (Value.int .i64) := by simp [ints]

theorem Sl.int_at {w : World} {S : Nat → Prop} {A : Option Addr} {n k : Nat} {zs : List Int} (h : Sl w S 1 A n (ints zs)) (hk : k < n) :
    ∃ b o x, A = some ⟨b, o, none⟩ ∧ b < w.heap.size ∧ zs[k]? = some x ∧ w.cell? ⟨b, o + k, none⟩ = some (.int .i64 x) := by
  obtain ⟨b, o, e, _, hb, hc⟩ := h.2 (by omega)
  have hl : k < zs.length := by have := h.1; simp [ints] at this; omega
  refine ⟨b, o, zs[k], e, hb, List.getElem?_eq_getElem hl, ?_⟩
  rw [hc k (by omega)]
  simp [ints, hl]

theorem Sl.len {w : World} {S : Nat → Prop} {A : Option Addr} {n : Nat} {zs : List Int} (h : Sl w S 1 A n (ints zs)) : zs.length = n := by
  have := h.1; simp [ints] at this; exact this

/-- A slice that the call has made, whole: writable. -/
theorem made_row {P : Program} (w : World) (t e : TypeId) (z : Value) (size bytes : Nat) (ht : P.underlying t = some (.slice e)) (hi : (P.info? e).map (fun i => (i.zero, i.size, i.bytes)) = some (some z, size, bytes))
    (n : Nat) (hb : bytes * n ≤ 281474976710656) (h63 : n ≤ maxLen) :
    ∃ w' cs, (Instr.makeSlice t (.int .i64 (n : Int)) (.int .i64 (n : Int))).run P w = .ok (.slice (some ⟨w.heap.size, 0, none⟩) n n) w' ∧
      w'.ownsRow w.heap.size e size (.slice (some ⟨w.heap.size, 0, none⟩) n n) n cs ∧ cs = (madeCells z.cells (n * size)).toList ∧ Ext w w' ∧ w.heap.size < w'.heap.size := by
  obtain ⟨i0, hi, hz0, hz1, hz2⟩ := info_parts hi
  obtain ⟨w1, hmk, hown, hg⟩ := run_make_full (P := P) w w.heap.size t e i0 z size ht hi hz0 hz1 .i64 .i64 n (by rw [hz2]; exact hb) h63 (Nat.le_refl _)
  exact ⟨w1, _, hmk, hown, rfl, (Ext.refl' w).grown' hg (by simp), (hown.lt w.heap.size rfl).2⟩

/-- A cell of a row of the call's own. -/
theorem own_at {w : World} {base : Nat} {e : TypeId} {A : Option Addr} {n c k : Nat} {cs : List Value} (h : w.ownsRow base e 1 (.slice A n c) n cs) (hk : k < n) :
    ∃ g v, A = some ⟨g, 0, none⟩ ∧ base ≤ g ∧ w.cell? ⟨g, k, none⟩ = some v ∧ w.frozen? ⟨g, k, none⟩ = false := by
  obtain ⟨g, rfl⟩ : ∃ g, A = some ⟨g, 0, none⟩ := by
    rcases h.2 with ⟨hv, h0⟩ | ⟨g, cap, cur, hv, _⟩
    · omega
    · injection hv with h1; exact ⟨g, h1⟩
  have hcl : cs.length = n := by have := h.1; omega
  refine ⟨g, cs[k], rfl, (h.lt g rfl).1, ?_, h.frozenAt k⟩
  rw [h.cellAt k (by omega), List.getElem?_eq_getElem (by omega)]
theorem own_len {w : World} {base : Nat} {e : TypeId} {v : Value} {n : Nat} {cs : List Value} (h : w.ownsRow base e 1 v n cs) : cs.length = n := by have := h.1; omega
theorem ownSl {w : World} {base : Nat} {e : TypeId} {size n c : Nat} {A : Option Addr} {xs : List Value} (h : w.ownsRow base e size (.slice A n c) n xs) : Sl w (fun _ => True) size A n xs :=
  (Sl.of_own h).mono fun _ _ => trivial
theorem own_cap {w : World} {base : Nat} {e : TypeId} {size n c : Nat} {A : Option Addr} {xs : List Value} (h : w.ownsRow base e size (.slice A n c) n xs) : n ≤ c := by
  rcases h.2 with ⟨hv, h0⟩ | ⟨g, cap, cur, hv, _, _, hnc, _⟩
  · omega
  · injection hv with _ _ h3; omega
theorem own_base {w : World} {b b' : Nat} {e : TypeId} {size n : Nat} {v : Value} {xs : List Value} (h : w.ownsRow b e size v n xs) (hb : b' ≤ b) : w.ownsRow b' e size v n xs := by
  refine ⟨h.1, ?_⟩
  rcases h.2 with h0 | ⟨g, cap, cur, hv, hg, rest⟩
  · exact .inl h0
  · exact .inr ⟨g, cap, cur, hv, by omega, rest⟩
/-- A row that is not touched stays. -/
theorem own_chg {w w' : World} {S : Nat → Prop} {b : Nat} {e : TypeId} {size n : Nat} {v : Value} {xs : List Value} (h : w.ownsRow b e size v n xs) (k : Chg S w w') (hd : ∀ g, v.ownBlock = some g → ¬ S g) : w'.ownsRow b e size v n xs := by
  refine ⟨h.1, ?_⟩
  rcases h.2 with h0 | ⟨g, cap, cur, rfl, hg, hh, rest⟩
  · exact .inl h0
  · exact .inr ⟨g, cap, cur, rfl, hg, by rw [k.block g (Array.getElem?_eq_some_iff.1 hh).1 (hd g rfl)]; exact hh, rest⟩
theorem own_ext {w w' : World} {b : Nat} {e : TypeId} {size n : Nat} {v : Value} {xs : List Value} (h : w.ownsRow b e size v n xs) (k : Ext w w') : w'.ownsRow b e size v n xs :=
  own_chg h (k.chg fun _ => False) fun _ _ q => q

/-- append(s, x): one element more onto a row of the call's own. -/
theorem wp_push {P : Program} {ops : Array Oper} {rest : List Oper} {o : Oper} {a : Act} {Q : Exit → Act → World → Prop} {w : World} (hgd : o.guard = none) (s x : Operand) (t : TypeId)
    (ho : o.op = .call { callee := .builtin .append, args := #[s, x], argTypes := #[t, t] })
    (base : Nat) (e : TypeId) (z : Value) (size bytes : Nat) (ht : P.underlying t = some (.slice e)) (hi : (P.info? e).map (fun i => (i.zero, i.size, i.bytes)) = some (some z, size, bytes)) (hzs : z.cells.size = size) (hsz : 0 < size)
    (A : Option Addr) (n c : Nat) (xs : List Value) (hs : a.eval s = .slice A n c) (hown : w.ownsRow base e size (.slice A n c) n xs)
    (news : List Value) (gn : Nat) (hgn : gn = w.heap.size) (hx : a.eval x = .slice (some ⟨gn, 0, none⟩) 1 1) (hl : news.length = size) (h1 : ∀ u ∈ news, u.oneCell' = true)
    (hbytes : (n + 1) * bytes ≤ 140737488355328) (h63 : n + 1 ≤ maxLen) (hbase : base ≤ w.heap.size)
    (h : ∀ A' c' w', w'.ownsRow base e size (.slice A' (n + 1) c') (n + 1) (xs ++ news) → Chg (fun k => (Value.slice A n c).ownBlock = some k) w w' → ((Value.slice A' (n + 1) c').ownBlock = (Value.slice A n c).ownBlock ∨ ∃ g, (Value.slice A' (n + 1) c').ownBlock = some g ∧ w.heap.size ≤ g) →
      wpList P ops Q rest (a.put o.dst (.slice A' (n + 1) c')) w') :
    wpList P ops Q (o :: rest) a (w.alloc (.cells news.toArray e)) := by
  subst hgn
  obtain ⟨i0, hi, hz0, hz1, hz2⟩ := info_parts hi
  refine wpList_append_own_at (w := w.alloc (.cells news.toArray e)) hgd s x t ho base e i0 z size bytes ht hi hz0 hz1 hz2 hzs hsz (.slice A n c) n xs hs (hown.alloc _) ⟨w.heap.size, 0, none⟩ 1 1 news hx (by omega) ?_ h1 h63 hbytes (by simp; omega) ?_
  · intro j u hu
    have hadd : (⟨w.heap.size, 0, none⟩ : Addr).add j = ⟨w.heap.size, j, none⟩ := by unfold Addr.add; split <;> simp_all
    rw [hadd, cell_of_row _ w.heap.size j news.toArray e (0, 0) (heap_alloc_new w _)]
    simpa using hu
  · intro v' w' h2 h3 h4 h5
    obtain ⟨A', c', rfl⟩ : ∃ A' c', v' = .slice A' (n + 1) c' := by
      rcases h2.2 with ⟨_, h0⟩ | ⟨g, cap, cur, hv, _⟩
      · omega
      · exact ⟨_, _, hv⟩
    refine h A' c' w' h2 ?_ ?_
    · exact ((Chg.refl _ w).al _).grown h3 (fun k hk => .inl hk)
    · rcases h5 with h5 | h5
      · exact .inl h5
      · exact .inr ⟨_, h5, by simp⟩

theorem World.heap_alloc_size (w : World) (o : Obj) : (w.alloc o).heap.size = w.heap.size + 1 := by simp
theorem addr_inj {a b : Nat} (h : some (⟨a, 0, none⟩ : Addr) = some ⟨b, 0, none⟩) : a = b := congrArg (fun x : Option Addr => (x.getD ⟨0, 0, none⟩).block) h

/-! ### A block that is known whole -/
def Bx (w : World) (g : Nat) (t : TypeId) (cs : Array Value) : Prop := w.heap[g]? = some (.cells cs t (0, 0))
section
variable {w w' : World} {g : Nat} {t : TypeId} {cs cs' : Array Value}
theorem Bx.lt (h : Bx w g t cs) : g < w.heap.size := (Array.getElem?_eq_some_iff.1 h).1
theorem Bx.cell (h : Bx w g t cs) (i : Nat) : w.cell? ⟨g, i, none⟩ = cs[i]? := cell_of_row w g i cs t (0, 0) h
theorem Bx.frozen (h : Bx w g t cs) (i : Nat) : w.frozen? ⟨g, i, none⟩ = false := frozen_of_row w g i cs t h
theorem Bx.new' (w : World) (t : TypeId) (cs : Array Value) (hg : g = w.heap.size) : Bx (w.alloc (.cells cs t)) g t cs := by subst hg; exact heap_alloc_new w _
theorem Bx.al (h : Bx w g t cs) (o : Obj) : Bx (w.alloc o) g t cs := (Below.heap_alloc w o g h.lt).trans h
theorem Bx.dr (h : Bx w g t cs) : Bx w.drew g t cs := h
theorem Bx.drN (h : Bx w g t cs) (n : Nat) : Bx (w.drewN n) g t cs := h
theorem Bx.far (h : Bx w g t cs) {p : Addr} (hp : g ≠ p.block) (u : Value) : Bx (w.setCell p u) g t cs := (Below.heap_setCell w p u g hp).trans h
theorem Bx.set_ (h : Bx w g t cs) (i : Nat) (u : Value) : Bx (w.setCell ⟨g, i, none⟩ u) g t (cs.setIfInBounds i u) := heap_setCell_same w g i cs t u h
theorem Bx.cast (h : Bx w g t cs) (e : cs = cs') : Bx w g t cs' := e ▸ h
theorem Bx.chg {S : Nat → Prop} (h : Bx w g t cs) (k : Chg S w w') (hg : ¬ S g) : Bx w' g t cs := (k.block g h.lt hg).trans h
theorem Bx.ext (h : Bx w g t cs) (k : Ext w w') : Bx w' g t cs := (k.block g h.lt).trans h
end
theorem Chg.sc {S : Nat → Prop} {a b : World} (h : Chg S a b) {p : Addr} (hp : S p.block) (u : Value) : Chg S a (b.setCell p u) :=
  h.trans ⟨rfl, rfl, rfl, by simp [World.setCell], fun k _ hn => Below.heap_setCell b p u k (fun e => hn (by rw [e]; exact hp))⟩
/-- Two slices of the call's own lie in two blocks. -/
def Apart (v v' : Value) : Prop := ∀ g, v.ownBlock = some g → v'.ownBlock = some g → False
theorem Apart.symm {v v' : Value} (h : Apart v v') : Apart v' v := fun g a b => h g b a
theorem apart_of_base {w w' : World} {b b' : Nat} {e e' : TypeId} {size size' n n' : Nat} {v v' : Value} {xs xs' : List Value} (h : w.ownsRow b e size v n xs) (h' : w'.ownsRow b' e' size' v' n' xs') (hb : w.heap.size ≤ b') : Apart v v' :=
  fun g hg hg' => by have h1 := h.lt g hg; have h2 := h'.lt g hg'; omega

/-! ### Small words -/
noncomputable def dec (p : Prop) : Bool := @decide p (Classical.propDecidable p)
theorem dec_yes {p : Prop} (h : p) : dec p = true := by simp [dec, h]
theorem dec_no {p : Prop} (h : ¬ p) : dec p = false := by simp [dec, h]
theorem dec_true {p : Prop} (h : dec p = true) : p := by simpa [dec] using h
theorem dec_false {p : Prop} (h : dec p = false) : ¬ p := by simpa [dec] using h
/-- The first k elements satisfy p. -/
def AllTo {α : Type} (p : Nat → α → Prop) (l : List α) (k : Nat) : Prop := ∀ i, i < k → ∀ a, l[i]? = some a → p i a
theorem AllTo.zero {α : Type} (p : Nat → α → Prop) (l : List α) : AllTo p l 0 := fun _ h => absurd h (Nat.not_lt_zero _)
theorem AllTo.succ {α : Type} {p : Nat → α → Prop} {l : List α} {k : Nat} {a : α} (h : AllTo p l k) (ha : l[k]? = some a) (hp : p k a) : AllTo p l (k + 1) := by
  intro i hi b hb
  by_cases e : i = k
  · subst e; rw [ha] at hb; injection hb with hb; subst hb; exact hp
  · exact h i (by omega) b hb
theorem AllTo.not {α : Type} {p : Nat → α → Prop} {l : List α} {k n : Nat} {a : α} (ha : l[k]? = some a) (hk : k < n) (hp : ¬ p k a) : ¬ AllTo p l n := fun h => hp (h k hk a ha)

/-- A cell that was there. -/
theorem Ext.co {w w' : World} (h : Ext w w') {a : Addr} {v : Value} (hc : w.cell? a = some v) : w'.cell? a = some v := by
  rw [h.cell (World.block_lt_of_cell? w a hc)]; exact hc
/-- .. of an old world, behind one box. -/
theorem Ext.co1 {w w' : World} {o : Obj} (h : Ext (w.alloc o) w') {a : Addr} {v : Value} (hc : w.cell? a = some v) : w'.cell? a = some v :=
  h.co (((Ext.refl' w).al o).co hc)
/-- .. of the box. -/
theorem Ext.nu {w w' : World} {cs : Array Value} {t : TypeId} (h : Ext (w.alloc (.cells cs t)) w') (i : Nat) {v : Value} (hc : cs[i]? = some v) : w'.cell? ⟨w.heap.size, i, none⟩ = some v :=
  h.co (((Bx.new' w t cs rfl).cell i).trans hc)
end Go.Proofs.YtglplgbhhnmgbaaGreat
