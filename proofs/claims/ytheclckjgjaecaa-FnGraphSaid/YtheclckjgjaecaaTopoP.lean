/- Topo: plain words. No condition. -/
import Derived.Test.YtheclckjgjaecaaTopoC
namespace Go.Proofs.Ytheclckjgjaecaa
open Go.RowKit Go.Deep

def Edge.ok (n : Int) (_ : Nat) (e : Edge) : Prop := (0 ≤ e.from_ ∧ e.from_ ≤ n - 1) ∧ (0 ≤ e.to_ ∧ e.to_ ≤ n - 1)
noncomputable def freeV (l : List Edge) (out : List Int) (v : Int) : Bool := dec (AllTo (Edge.lets v out) l l.length ∧ ¬ v ∈ out)
noncomputable def nxTo (l : List Edge) (out : List Int) (N : Nat) : Nat → Int
  | 0 => -1
  | m + 1 => if freeV l out ((N : Int) - 1 - (m : Int)) = true then (N : Int) - 1 - (m : Int) else nxTo l out N m
theorem nxTo_range (l : List Edge) (out : List Int) (N : Nat) : ∀ m, m ≤ N → -1 ≤ nxTo l out N m ∧ nxTo l out N m < N := by
  intro m
  induction m with
  | zero => intro _; show -1 ≤ (-1 : Int) ∧ (-1 : Int) < N; omega
  | succ m ih =>
    intro hm
    unfold nxTo
    split
    · omega
    · exact ih (by omega)
noncomputable def tp (l : List Edge) (N : Nat) : Nat → Option (List Int)
  | 0 => some []
  | k + 1 => match tp l N k with
    | none => none
    | some out => if nxTo l out N N < 0 then none else some (out ++ [nxTo l out N N])
theorem tp_none {l : List Edge} {N k : Nat} (h : tp l N k = none) : ∀ n, k ≤ n → tp l N n = none := by
  intro n
  induction n with
  | zero => intro hn; rw [show (0 : Nat) = k by omega]; exact h
  | succ n ih =>
    intro hn
    by_cases e : k = n + 1
    · rw [← e]; exact h
    · simp [tp, ih (by omega)]
theorem tp_stop {l : List Edge} {N k : Nat} {out : List Int} (h : tp l N k = some out) (hx : nxTo l out N N < 0) : tp l N (k + 1) = none := by simp [tp, h, hx]
theorem tp_next {l : List Edge} {N k : Nat} {out : List Int} (h : tp l N k = some out) (hx : ¬ nxTo l out N N < 0) : tp l N (k + 1) = some (out ++ [nxTo l out N N]) := by simp only [tp, h]; rw [if_neg hx]
noncomputable def topoOf (n : Int) (l : List Edge) : List Int := if dec ((0 ≤ n ∧ n ≤ 9) ∧ l.length ≤ 81 ∧ AllTo (Edge.ok n) l l.length) = true then (tp l n.toNat n.toNat).getD [] else []
theorem topo_no {n : Int} {l : List Edge} (h : ¬ ((0 ≤ n ∧ n ≤ 9) ∧ l.length ≤ 81 ∧ AllTo (Edge.ok n) l l.length)) : topoOf n l = [] := by unfold topoOf; rw [dec_no h]; rfl
theorem topo_yes {N : Nat} {l : List Edge} (h : ((0 : Int) ≤ (N : Int) ∧ (N : Int) ≤ 9) ∧ l.length ≤ 81 ∧ AllTo (Edge.ok (N : Int)) l l.length) : topoOf (N : Int) l = (tp l N N).getD [] := by
  unfold topoOf; rw [dec_yes h]; rfl
def ptrOf : Value → Addr
  | .pointer (some a) => a
  | _ => ⟨0, 0, none⟩
theorem own_bx {w : World} {b g : Nat} {e t : TypeId} {z n : Nat} {v : Value} {xs : List Value} {cs : Array Value} (h : w.ownsRow b e z v n xs) (hb : Bx w g t cs) (hne : e ≠ t) : ¬ v.ownBlock = some g := fun hg => by
  rcases h.2 with ⟨rfl, _⟩ | ⟨g1, cap, cur, rfl, _, hh, _⟩
  · simp [Value.ownBlock] at hg
  · have e1 : g1 = g := by simpa [Value.ownBlock] using hg
    subst e1
    have hb' : w.heap[g1]? = some (.cells cs t (0, 0)) := hb
    rw [hh] at hb'
    injection hb' with hb'
    injection hb' with _ ht
    exact hne ht
theorem nxTo_free {l : List Edge} {out : List Int} {N m : Nat} (h : freeV l out ((N : Int) - 1 - (m : Int)) = true) : nxTo l out N (m + 1) = (N : Int) - 1 - (m : Int) := by simp only [nxTo]; rw [if_pos h]
theorem nxTo_busy {l : List Edge} {out : List Int} {N m : Nat} (h : freeV l out ((N : Int) - 1 - (m : Int)) = false) : nxTo l out N (m + 1) = nxTo l out N m := by simp only [nxTo]; rw [if_neg (by rw [h]; simp)]
def lenAt (w : World) (a : Addr) : Nat := match w.cell? a with
  | some (.slice _ n _) => n
  | _ => 0
theorem lenAt_slice {w : World} {a : Addr} {B : Option Addr} {n d : Nat} (h : w.cell? a = some (.slice B n d)) : lenAt w a = n := by unfold lenAt; rw [h]
def intAt (w : World) (a : Addr) : Int := match w.cell? a with
  | some (.int _ n) => n
  | _ => 0
theorem intAt_int {w : World} {a : Addr} {k : IntKind} {n : Int} (h : w.cell? a = some (.int k n)) : intAt w a = n := by unfold intAt; rw [h]
theorem own_emptyT (w : World) : (w.alloc (.cells #[] 3)).ownsRow w.heap.size 3 1 (.slice (some ⟨w.heap.size, 0, none⟩) 0 0) 0 (ints []) :=
  World.ownsRow_lit w #[] 0 (Nat.le_refl _) (Nat.zero_le _) (by simp)

end Go.Proofs.Ytheclckjgjaecaa
