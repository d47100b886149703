/- The walk over what a call owns, in a region that draws its order. No condition. -/
import Derived.Test.YtnhkjgnfjphllaaMineW
import Derived.Test.YtnhkjgnfjphllaaRegT
import Derived.BigQuiet
namespace Go.Proofs.Ytnhkjgnfjphllaa
open Go.RowKit Go.Deep
set_option linter.unusedSimpArgs false
set_option linter.unusedVariables false

section
variable {P : Program} {ops : Array Oper} {rest : List Oper} {o : Oper} {a : Act} {b w : World} {rs : List Res}
theorem Mine.region_quiet {id : Nat} {Q : Exit → Act → World → Prop} {l : List Oper} (M : Mine b w rs) (hm : P.follows .mixedOrders = true) (hB : Region.lexB .any l.toArray = true)
    (h : wpQuiet P l.toArray (fun w' => Mine b w' rs) (fun a' => ∀ w', Mine b w' rs → Q .normal a' w') l a) : (Code.region id l.toArray true).wp P Q a w := region_class _ hm hB M.dr h
theorem Mine.region_tail {id : Nat} {Q : Exit → Act → World → Prop} {l : List Oper} (M : Mine b w rs) (n : Nat) (hm : P.follows .mixedOrders = true) (hB : Region.lexTailB .any l.toArray n = true)
    (h : wpQuiet P l.toArray (fun w' => Mine b w' rs) (fun a' => ∀ w', Mine b w' rs → wpList P l.toArray Q (l.drop n) a' w') (l.take n) a) : (Code.region id l.toArray true).wp P Q a w := Ytnhkjgnfjphllaa.region_tail n _ hm hB M.dr h
variable {Q : Act → Prop}
theorem wanted_none (h : o.guard = none) (t : Array Value) : Region.wanted o (yielded ops t) = true := by simp [Region.wanted, h]
theorem Mine.q_get (hw : Region.wanted o (yielded ops a.tmps) = true) (ty : TypeId) (x : Operand) (ho : o.op = .load ty x) (i j : Nat) {g : Nat} {t : TypeId} {cs : Array Value} (hi : rs[i]? = some (.box g t cs)) (hx : a.eval x = .pointer (some ⟨g, j, none⟩)) (v : Value) (hv : cs[j]? = some v)
    (d : TypeDesc) (hu : P.underlying ty = some d) (hd : d.isRow = false) (h : wpQuiet P ops (fun w' => Mine b w' rs) Q rest (a.put o.dst v)) : wpQuiet P ops (fun w' => Mine b w' rs) Q (o :: rest) a :=
  BigFrame.wpQuiet_want hw fun K hK => ⟨v, fun w' M => by
    unfold Oper.quietAt execOp
    simp only [ho, hx, Instr.loadAt, Instr.sureAddr, Sem.run_bind, Sem.run_pure, Result.andThen_ok, run_loadVar_cell w' _ ty v d (((M.box_at i hi).cell j).trans hv) hu hd]
    exact ⟨rfl, rfl⟩, hK _ h⟩
theorem Mine.q_getr (hw : Region.wanted o (yielded ops a.tmps) = true) (ty : TypeId) (x : Operand) (ho : o.op = .load ty x) (i j : Nat) {g : Nat} {e : TypeId} {size n c : Nat} {xs : List Value} (hi : rs[i]? = some (.row e size (some ⟨g, 0, none⟩) n c xs)) (hx : a.eval x = .pointer (some ⟨g, j, none⟩)) (v : Value) (hv : xs[j]? = some v)
    (d : TypeDesc) (hu : P.underlying ty = some d) (hd : d.isRow = false) (h : wpQuiet P ops (fun w' => Mine b w' rs) Q rest (a.put o.dst v)) : wpQuiet P ops (fun w' => Mine b w' rs) Q (o :: rest) a :=
  BigFrame.wpQuiet_want hw fun K hK => ⟨v, fun w' M => by
    unfold Oper.quietAt execOp
    simp only [ho, hx, Instr.loadAt, Instr.sureAddr, Sem.run_bind, Sem.run_pure, Result.andThen_ok, run_loadVar_cell w' _ ty v d (((M.row_at i hi).cellAt j (by have h1 := (M.row_at i hi).1; have h2 := (List.getElem?_eq_some_iff.1 hv).1; omega)).trans hv) hu hd]
    exact ⟨rfl, rfl⟩, hK _ h⟩
theorem Mine.q_gets (hw : Region.wanted o (yielded ops a.tmps) = true) (ty : TypeId) (x : Operand) (ho : o.op = .load ty x) (i j m : Nat) {g : Nat} {t : TypeId} {cs : List Value} (hi : rs[i]? = some (.box g t cs.toArray)) (hx : a.eval x = .pointer (some ⟨g, j, none⟩)) (hm : j + m ≤ cs.length)
    (d : TypeDesc) (hu : P.underlying ty = some d) (hd : d.isRow = true) (hf : (P.info? ty).map (·.size) = some m) (h : wpQuiet P ops (fun w' => Mine b w' rs) Q rest (a.put o.dst (.agg ((cs.drop j).take m).toArray))) : wpQuiet P ops (fun w' => Mine b w' rs) Q (o :: rest) a :=
  BigFrame.wpQuiet_want hw fun K hK => ⟨.agg ((cs.drop j).take m).toArray, fun w' M => by
    have hrun := run_loadVar_mid (P := P) w' g j ty ((cs.drop j).take m) d (fun k v hv => by
      rw [(M.box_at i hi).cell]
      rw [List.getElem?_take] at hv
      split at hv
      · rw [List.getElem?_drop] at hv; simpa using hv
      · cases hv) hu hd (by rw [hf, List.length_take, List.length_drop]; congr 1; omega)
    unfold Oper.quietAt execOp
    simp only [ho, hx, Instr.loadAt, Instr.sureAddr, Sem.run_bind, Sem.run_pure, Result.andThen_ok, hrun]
    exact ⟨rfl, rfl⟩, hK _ h⟩
theorem Mine.q_getrs (hw : Region.wanted o (yielded ops a.tmps) = true) (ty : TypeId) (x : Operand) (ho : o.op = .load ty x) (i j : Nat) {g : Nat} {e : TypeId} {size n c : Nat} {xs : List Value} (hi : rs[i]? = some (.row e size (some ⟨g, 0, none⟩) n c xs)) (hx : a.eval x = .pointer (some ⟨g, j, none⟩)) (vs : List Value) (hv : ∀ k, k < vs.length → xs[j + k]? = vs[k]?)
    (d : TypeDesc) (hu : P.underlying ty = some d) (hd : d.isRow = true) (hf : (P.info? ty).map (·.size) = some vs.length) (h : wpQuiet P ops (fun w' => Mine b w' rs) Q rest (a.put o.dst (.agg vs.toArray))) : wpQuiet P ops (fun w' => Mine b w' rs) Q (o :: rest) a :=
  BigFrame.wpQuiet_want hw fun K hK => ⟨.agg vs.toArray, fun w' M => by
    have hrun := run_loadVar_mid (P := P) w' g j ty vs d (fun k v hk => by
      have hkl := (List.getElem?_eq_some_iff.1 hk).1
      have h1 := (hv k hkl).trans hk
      rw [(M.row_at i hi).cellAt _ (by have h2 := (M.row_at i hi).1; have h3 := (List.getElem?_eq_some_iff.1 h1).1; omega)]
      exact h1) hu hd hf
    unfold Oper.quietAt execOp
    simp only [ho, hx, Instr.loadAt, Instr.sureAddr, Sem.run_bind, Sem.run_pure, Result.andThen_ok, hrun]
    exact ⟨rfl, rfl⟩, hK _ h⟩
end
end Go.Proofs.Ytnhkjgnfjphllaa
