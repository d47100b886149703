import Derived.Test.YtfkbomcbcjjlbaaRows
import Derived.WalkKit
import Derived.Lib.Hide
import Derived.Deep.LoopGhost
import Derived.Deep.Cut
import Derived.Deep.Light
import Derived.Deep.Draws
import Derived.Deep.QuietTactic
import Derived.BigQuiet
namespace Go.Proofs.Ytfkbomcbcjjlbaa
open Go.RowKit

/-- Only blocks of S, and new ones, may have changed. -/
structure Chg (S : Nat → Prop) (w w' : World) : Prop where
  os : w'.os = w.os
  tape : w'.tape = w.tape
  output : w'.output = w.output
  size : w.heap.size ≤ w'.heap.size
  block : ∀ k, k < w.heap.size → ¬ S k → w'.heap[k]? = w.heap[k]?

/-- What was there is as it was. -/
abbrev Ext (w w' : World) : Prop := Below w.heap.size w w'

theorem Ext.refl' (w : World) : Ext w w := Below.refl _ _
theorem Ext.tr {a b c : World} (h : Ext a b) (k : Ext b c) : Ext a c := h.trans (k.mono h.size)
theorem Ext.al {a b : World} (h : Ext a b) (o : Obj) : Ext a (b.alloc o) := h.alloc h.size o
theorem Ext.dr {a b : World} (h : Ext a b) : Ext a b.drew := h.drew
theorem Ext.drN {a b : World} (h : Ext a b) (n : Nat) : Ext a (b.drewN n) := ⟨h.os, h.tape, h.output, h.size, h.block⟩
theorem Ext.sc {a b : World} (h : Ext a b) {p : Addr} (hp : a.heap.size ≤ p.block) (u : Value) : Ext a (b.setCell p u) := h.setCell hp u
theorem Ext.chg {a b : World} (h : Ext a b) (S : Nat → Prop) : Chg S a b := ⟨h.os, h.tape, h.output, h.size, fun k hk _ => h.block k hk⟩
theorem Chg.refl (S : Nat → Prop) (w : World) : Chg S w w := ⟨rfl, rfl, rfl, Nat.le_refl _, fun _ _ _ => rfl⟩
theorem Chg.trans {S : Nat → Prop} {a b c : World} (h : Chg S a b) (k : Chg S b c) : Chg S a c :=
  ⟨k.os.trans h.os, k.tape.trans h.tape, k.output.trans h.output, Nat.le_trans h.size k.size, fun i hi hn => (k.block i (Nat.lt_of_lt_of_le hi h.size) hn).trans (h.block i hi hn)⟩
theorem Chg.mono {S T : Nat → Prop} {a b : World} (h : Chg S a b) (hs : ∀ k, S k → T k) : Chg T a b :=
  ⟨h.os, h.tape, h.output, h.size, fun i hi hn => h.block i hi (fun hk => hn (hs i hk))⟩
theorem Chg.dr {S : Nat → Prop} {a b : World} (h : Chg S a b) : Chg S a b.drew := ⟨h.os, h.tape, h.output, h.size, h.block⟩
theorem Chg.drN {S : Nat → Prop} {a b : World} (h : Chg S a b) (n : Nat) : Chg S a (b.drewN n) := ⟨h.os, h.tape, h.output, h.size, h.block⟩
theorem Chg.al {S : Nat → Prop} {a b : World} (h : Chg S a b) (o : Obj) : Chg S a (b.alloc o) :=
  h.trans ((Below.refl b.heap.size b).alloc (Nat.le_refl _) o |> fun (x : Ext b _) => x.chg S)
theorem Chg.grown {S : Nat → Prop} {a b c : World} {row : Option Nat} (h : Chg S a b) (g : b.grownBy c row) (hr : ∀ k, row = some k → S k ∨ a.heap.size ≤ k) : Chg S a c :=
  ⟨g.os.trans h.os, g.tape.trans h.tape, g.output.trans h.output, Nat.le_trans h.size g.size, fun i hi hn =>
    (g.block i (Nat.lt_of_lt_of_le hi h.size) (fun e => by rcases hr i e.symm with q | q; exact hn q; omega)).trans (h.block i hi hn)⟩
/-- What changes only what is new changes nothing that was there. -/
theorem Chg.ext {S : Nat → Prop} {a b c : World} (h : Chg S b c) (k : Ext a b) (hs : ∀ i, S i → a.heap.size ≤ i) : Ext a c :=
  ⟨h.os.trans k.os, h.tape.trans k.tape, h.output.trans k.output, Nat.le_trans k.size h.size, fun i hi => (h.block i (Nat.lt_of_lt_of_le hi k.size) (fun q => by have := hs i q; omega)).trans (k.block i hi)⟩
theorem Ext.grown' {a b c : World} {row : Option Nat} (h : Ext a b) (g : b.grownBy c row) (hr : ∀ k, row = some k → a.heap.size ≤ k) : Ext a c := h.grown g h.size hr

/-- The slice value with address A and n elements of 'size' cells shows the cells xs; its block lies in S. -/
def Sl (w : World) (S : Nat → Prop) (size : Nat) (A : Option Addr) (n : Nat) (xs : List Value) : Prop :=
  xs.length = n * size ∧ (0 < n → ∃ b o, A = some ⟨b, o, none⟩ ∧ S b ∧ b < w.heap.size ∧ ∀ j, j < n * size → w.cell? ⟨b, o + j, none⟩ = xs[j]?)

section
variable {w w' : World} {S T : Nat → Prop} {size n : Nat} {A : Option Addr} {xs : List Value}
theorem Sl.chg (h : Sl w S size A n xs) (k : Chg T w w') (hd : ∀ i, S i → ¬ T i) : Sl w' S size A n xs :=
  ⟨h.1, fun hn => by
    obtain ⟨b, o, e, hs, hb, hc⟩ := h.2 hn
    exact ⟨b, o, e, hs, Nat.lt_of_lt_of_le hb k.size, fun j hj => (World.cell?_of_block (w := w) (a := ⟨b, o + j, none⟩) (k.block b hb (hd b hs))).trans (hc j hj)⟩⟩
theorem Sl.ext (h : Sl w S size A n xs) (k : Ext w w') : Sl w' S size A n xs := h.chg (k.chg fun _ => False) fun _ _ q => q
theorem Sl.mono (h : Sl w S size A n xs) (hs : ∀ i, S i → T i) : Sl w T size A n xs :=
  ⟨h.1, fun hn => by
    obtain ⟨b, o, e, hs', hb, hc⟩ := h.2 hn
    exact ⟨b, o, e, hs _ hs', hb, hc⟩⟩
theorem Sl.of_own {base : Nat} {e : TypeId} {c : Nat} (h : w.ownsRow base e size (.slice A n c) n xs) : Sl w (fun k => base ≤ k ∧ k < w.heap.size) size A n xs := by
  refine ⟨h.1, fun hn => ?_⟩
  rcases h.2 with ⟨hv, h0⟩ | ⟨g, cap, cur, hv, hb, hg, hnc, hcm, hcs, htake⟩
  · omega
  · injection hv with h1 h2 h3
    subst h1
    have hlt : g < w.heap.size := (Array.getElem?_eq_some_iff.1 hg).1
    refine ⟨g, 0, rfl, ⟨hb, hlt⟩, hlt, fun j hj => ?_⟩
    rw [Nat.zero_add]
    rw [cell_of_row w g j cur e (0, 0) hg, ← htake, List.getElem?_take, if_pos hj]
    simp
end

def ints (zs : List Int) : List Value := zs.map (Value.int .i64)
theorem ints_length (zs : List Int) : (ints zs).length = zs.length := by simp [ints]
theorem ints_get (zs : List Int) (k : Nat) : (ints zs)[k]? = zs[k]?.map (Value.int .i64) := by simp [ints]

theorem Sl.int_at {w : World} {S : Nat → Prop} {A : Option Addr} {n k : Nat} {zs : List Int} (h : Sl w S 1 A n (ints zs)) (hk : k < n) :
    ∃ b o x, A = some ⟨b, o, none⟩ ∧ b < w.heap.size ∧ zs[k]? = some x ∧ w.cell? ⟨b, o + k, none⟩ = some (.int .i64 x) := by
  obtain ⟨b, o, e, _, hb, hc⟩ := h.2 (by omega)
  have hl : k < zs.length := by have := h.1; simp [ints] at this; omega
  refine ⟨b, o, zs[k], e, hb, List.getElem?_eq_getElem hl, ?_⟩
  rw [hc k (by omega)]
  simp [ints, hl]

theorem Sl.len {w : World} {S : Nat → Prop} {A : Option Addr} {n : Nat} {zs : List Int} (h : Sl w S 1 A n (ints zs)) : zs.length = n := by
  have := h.1; simp [ints] at this; exact this

end Go.Proofs.Ytfkbomcbcjjlbaa
