/- Whole variables, read and written at one go. No condition. -/
import Derived.Test.YtglplgbhhnmgbaaGreatDeep
import Derived.Deep.MidRow
import Derived.Laws.Tables
import Derived.Deep.Quiet
namespace Go.Proofs.YtglplgbhhnmgbaaGreat
open Go.RowKit Go.Deep

theorem Bx.row {w : World} {g : Nat} {t : TypeId} {cs : Array Value} (h : Bx w g t cs) (cs' : Array Value) : Bx (w.setRow g cs') g t cs' := setRow_heap w g cs cs' t (0, 0) h
theorem Chg.row {S : Nat → Prop} {a b : World} (h : Chg S a b) {g : Nat} (hg : S g) (cs : Array Value) : Chg S a (b.setRow g cs) :=
  h.trans ⟨rfl, rfl, rfl, by simp, fun k _ hn => setRow_other b g k cs (fun e => hn (by rw [e]; exact hg))⟩
theorem Ext.row {a b : World} (h : Ext a b) {g : Nat} (hg : a.heap.size ≤ g) (cs : Array Value) : Ext a (b.setRow g cs) :=
  ((Chg.refl (fun k => a.heap.size ≤ k) b).row hg cs).ext h fun _ q => q
theorem Chg.cells {S : Nat → Prop} {a : World} {g : Nat} (hg : S g) : ∀ (vs : List Value) (o : Nat) {b : World}, Chg S a b → Chg S a (b.setCells g o vs)
  | [], _, _, h => h
  | v :: r, o, _, h => Chg.cells hg r (o + 1) (h.sc (p := ⟨g, o, none⟩) hg v)
theorem Ext.cells {a b : World} (h : Ext a b) {g : Nat} (hg : a.heap.size ≤ g) (vs : List Value) (o : Nat) : Ext a (b.setCells g o vs) :=
  (Chg.cells (S := fun k => a.heap.size ≤ k) hg vs o (Chg.refl _ b)).ext h fun _ q => q
/-- A row with others in the place of some cells. -/
def putAt (cs : List Value) (p : Nat) : List Value → List Value
  | [] => cs
  | v :: r => putAt (cs.set p v) (p + 1) r
theorem putAt_len : ∀ (row cs : List Value) (p : Nat), (putAt cs p row).length = cs.length
  | [], _, _ => rfl
  | v :: r, cs, p => by rw [putAt, putAt_len r, List.length_set]
theorem putAt_lt : ∀ (row cs : List Value) (p i : Nat), i < p → (putAt cs p row)[i]? = cs[i]?
  | [], _, _, _, _ => rfl
  | v :: r, cs, p, i, h => by rw [putAt, putAt_lt r _ _ _ (by omega), List.getElem?_set_ne (by omega)]
theorem putAt_at : ∀ (row cs : List Value) (p j : Nat), j < row.length → p + row.length ≤ cs.length → (putAt cs p row)[p + j]? = row[j]?
  | [], _, _, _, h, _ => absurd h (Nat.not_lt_zero _)
  | v :: r, cs, p, j, h, hp => by
    simp only [List.length_cons] at h hp
    rcases j with _ | j
    · rw [putAt, putAt_lt r _ _ _ (by omega), Nat.add_zero, List.getElem?_set_self (by omega)]
      rfl
    · rw [putAt, show p + (j + 1) = p + 1 + j by omega, putAt_at r _ _ _ (by omega) (by rw [List.length_set]; omega)]
      rfl
theorem own_cells {base g : Nat} {e : TypeId} {size n c : Nat} : ∀ (vs : List Value) (o : Nat) {w : World} {xs : List Value}, w.ownsRow base e size (.slice (some ⟨g, 0, none⟩) n c) n xs → (w.setCells g o vs).ownsRow base e size (.slice (some ⟨g, 0, none⟩) n c) n (putAt xs o vs)
  | [], _, _, _, h => h
  | v :: r, o, _, _, h => own_cells r (o + 1) (h.stored o v).1
theorem own_there {w : World} {base g : Nat} {e : TypeId} {size n c k : Nat} {xs : List Value} (h : w.ownsRow base e size (.slice (some ⟨g, 0, none⟩) n c) n xs) (hk : k < n) : w.there g (k * size) size := fun j hj => by
  have hm : k * size + j < n * size := by
    have : (k + 1) * size ≤ n * size := Nat.mul_le_mul_right _ hk
    rw [Nat.succ_mul] at this
    omega
  refine ⟨?_, h.frozenAt _⟩
  rw [h.cellAt _ hm, List.getElem?_eq_getElem (by rw [h.1]; exact hm)]
  rfl
theorem SlR.range {α : Type} {R : Rd α} {size : Nat} (G : Good R size) {w : World} {S : Nat → Prop} {b p : Nat} {row : List Value} {x : α} (hr : R w S row x) (h : ∀ j, j < size → w.cell? ⟨b, p + j, none⟩ = row[j]?) : w.rangeAt b p row := fun j v hv => by
  have hj : j < size := by have := (List.getElem?_eq_some_iff.1 hv).1; rw [G.len hr] at this; exact this
  rw [h j hj]
  exact hv
/-- A whole variable read in a region that draws. -/
theorem quiet_load {P : Program} {C : World → Prop} {K : Act → Prop} {o : Oper} {a : Act} (ty : TypeId) (x : Operand) (ho : o.op = .load ty x) (b off : Nat) (hx : a.eval x = .pointer (some ⟨b, off, none⟩)) (row : List Value) (d : TypeDesc)
    (hS : ∀ w, C w → w.rangeAt b off row) (hu : P.underlying ty = some d) (hd : d.isRow = true) (hi : (P.info? ty).map (·.size) = some row.length) (h : K (a.put o.dst (.agg row.toArray))) : o.quiet P a C K :=
  ⟨_, fun w hw => by
    unfold Oper.quietAt execOp
    simp only [ho, hx, Instr.loadAt, Instr.sureAddr, Sem.run_bind, Sem.run_pure, Result.andThen_ok, run_loadVar_mid w b off ty row d (hS w hw) hu hd hi]
    exact ⟨rfl, rfl⟩, h⟩
end Go.Proofs.YtglplgbhhnmgbaaGreat
