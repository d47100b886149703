/- Great variables, read and written whole. No condition. -/
import Derived.Test.YtglplgbhhnmgbaaGreatRow2
import Derived.Deep.RegionHeld
namespace Go.Proofs.YtglplgbhhnmgbaaGreat
open Go.RowKit Go.Deep

/-- A new variable gets its value whole. -/
theorem wp_store_new {P : Program} {ops : Array Oper} {rest : List Oper} {o : Oper} {a : Act} {Q : Exit → Act → World → Prop} (w0 : World) (old : Array Value) (t : TypeId) (hgd : o.guard = none) (ty : TypeId) (x y : Operand) (ho : o.op = .store ty x y) (hd : o.dst = none)
    (hx : a.eval x = .pointer (some ⟨w0.heap.size, 0, none⟩)) (cells : Array Value) (hy : a.eval y = .agg cells) (hi : (P.info? ty).map (·.size) = some cells.size) (hold : old.size = cells.size) (h1 : cells.all (·.oneCell') = true)
    (h : ∀ w', Ext w0 w' → w0.heap.size < w'.heap.size → Bx w' w0.heap.size t cells → wpList P ops Q rest a w') : wpList P ops Q (o :: rest) a (w0.alloc (.cells old t)) := by
  have hb : Bx (w0.alloc (.cells old t)) w0.heap.size t old := Bx.new' _ _ _ rfl
  refine wpList_store_row hgd ty x y ho w0.heap.size cells hx hy t old hb hi hold h1 ?_
  rw [hd]
  have hx1 : Ext w0 ((w0.alloc (.cells old t)).setRow w0.heap.size cells) := ((Ext.refl' w0).al _).row (Nat.le_refl _) cells
  have hb1 := hb.row cells
  exact h _ hx1 hb1.lt hb1
theorem Bx.range {w : World} {g : Nat} {t : TypeId} {cs : List Value} (h : Bx w g t cs.toArray) : w.rangeAt g 0 cs := fun j v hv => by
  rw [Nat.zero_add, h.cell]
  simpa using hv
end Go.Proofs.YtglplgbhhnmgbaaGreat
