/- The walk over what a call owns: boxes read and written whole, rows of the caller's read whole. No condition. -/
import Derived.Test.YtglplgbhhnmgbaaGreatMineV
import Derived.Test.YtglplgbhhnmgbaaGreatRegH
import Derived.Test.YtglplgbhhnmgbaaGreatRow
import Derived.Test.YtglplgbhhnmgbaaGreatMine2
namespace Go.Proofs.YtglplgbhhnmgbaaGreat
open Go.RowKit Go.Deep
set_option linter.unusedSimpArgs false
set_option linter.unusedVariables false

section
variable {P : Program} {ops : Array Oper} {rest : List Oper} {o : Oper} {a : Act} {Q : Exit → Act → World → Prop} {b w : World} {rs : List Res}
/-- A box is written whole. -/
theorem Mine.wp_setall (M : Mine b w rs) (hgd : o.guard = none) (ty : TypeId) (x y : Operand) (ho : o.op = .store ty x y) (hd : o.dst = none) (i : Nat) {g : Nat} {t : TypeId} {cs : Array Value} (hi : rs[i]? = some (.box g t cs))
    (hx : a.eval x = .pointer (some ⟨g, 0, none⟩)) (vs : List Value) (hy : a.eval y = .agg vs.toArray) (hl : cs.size = vs.length) (h1 : ∀ u ∈ vs, u.oneCell' = true) (hu : (P.info? ty).map (·.size) = some vs.length)
    (h : ∀ w', Mine b w' (rs.set i (.box g t vs.toArray)) → wpList P ops Q rest a w') : wpList P ops Q (o :: rest) a w := by
  refine wpList_store_row hgd ty x y ho g vs.toArray hx hy t cs (M.box_at i hi) (by simpa using hu) (by simpa using hl) (all_oneCell_toArray h1) ?_
  rw [hd]
  exact h _ (M.setRow i hi vs.toArray)
/-- A box is read whole. -/
theorem Mine.wp_getall (M : Mine b w rs) (hgd : o.guard = none) (ty : TypeId) (x : Operand) (ho : o.op = .load ty x) (i : Nat) {g : Nat} {t : TypeId} {cs : Array Value} (hi : rs[i]? = some (.box g t cs)) (hx : a.eval x = .pointer (some ⟨g, 0, none⟩))
    (d : TypeDesc) (hu : P.underlying ty = some d) (hd : (match d with | .struct _ | .array _ _ => true | _ => false) = true) (hf : (P.info? ty).map (·.size) = some cs.size) (h : wpList P ops Q rest (a.put o.dst (.agg cs)) w) : wpList P ops Q (o :: rest) a w :=
  wpList_load_row hgd ty x ho g hx t cs (0, 0) d (M.box_at i hi) hu hd hf h
/-- A new variable, its cells a letter. -/
theorem Mine.wp_allocany (M : Mine b w rs) (hgd : o.guard = none) (ty : TypeId) (ho : o.op = .alloc ty) (n : Nat) (hz : (P.info? ty).map (fun i => i.zero.map (fun z => z.cells.size)) = some (some n)) (h : ∀ g w' cs, cs.size = n → Mine b w' (.box g ty cs :: rs) → wpList P ops Q rest (a.put o.dst (.pointer (some ⟨g, 0, none⟩))) w') : wpList P ops Q (o :: rest) a w := by
  cases hq : P.info? ty with
  | none => rw [hq] at hz; cases hz
  | some i =>
    cases hz2 : i.zero with
    | none => simp [hq, hz2] at hz
    | some z =>
      have hn : z.cells.size = n := by simpa [hq, hz2] using hz
      exact M.wp_alloc hgd ty ho z (by rw [hq]; simp [hz2]) fun g w' M' => h g w' z.cells hn M'
/-- A row of the caller's is read whole. -/
theorem Mine.wp_arg (M : Mine b w rs) (hgd : o.guard = none) (ty : TypeId) (x : Operand) (ho : o.op = .load ty x) (g p : Nat) (hx : a.eval x = .pointer (some ⟨g, p, none⟩)) (row : List Value) (hr : b.rangeAt g p row) (hg : g < b.heap.size)
    (d : TypeDesc) (hu : P.underlying ty = some d) (hd : d.isRow = true) (hf : (P.info? ty).map (·.size) = some row.length) (h : wpList P ops Q rest (a.put o.dst (.agg row.toArray)) w) : wpList P ops Q (o :: rest) a w :=
  wpList_load_mid hgd ty x ho g p hx row d (fun j v hv => (M.ext.cell (p := ⟨g, p + j, none⟩) hg).trans (hr j v hv)) hu hd hf h
/-- A cell of the caller's is read. -/
theorem Mine.wp_argc (M : Mine b w rs) (hgd : o.guard = none) (ty : TypeId) (x : Operand) (ho : o.op = .load ty x) (p : Addr) (v : Value) (hc : b.cell? p = some v ∧ p.block < b.heap.size) (hx : a.eval x = .pointer (some p))
    (d : TypeDesc) (hu : P.underlying ty = some d) (hd : d.isRow = false) (h : wpList P ops Q rest (a.put o.dst v) w) : wpList P ops Q (o :: rest) a w :=
  wpList_load_cell hgd ty x ho p hx v ((M.ext.cell hc.2).trans hc.1) d hu hd h
variable {K : Act → Prop}
theorem Mine.rd_getall (ty : TypeId) (x : Operand) (ho : o.op = .load ty x) (i : Nat) {g : Nat} {t : TypeId} {cs : Array Value} (hi : rs[i]? = some (.box g t cs)) (hx : a.eval x = .pointer (some ⟨g, 0, none⟩))
    (d : TypeDesc) (hu : P.underlying ty = some d) (hd : d.isRow = true) (hf : (P.info? ty).map (·.size) = some cs.size) (h : K (a.put o.dst (.agg cs))) : Reads P o a (fun w' => Mine b w' rs) K :=
  ⟨.agg cs, fun w' M => by
    have hrun := run_loadVar_mid (P := P) w' g 0 ty cs.toList d (fun k v hv => by rw [Nat.zero_add, (M.box_at i hi).cell]; simpa using hv) hu hd (by simpa using hf)
    unfold execOp
    simp only [ho, hx, Instr.loadAt, Instr.sureAddr, Sem.run_bind, Sem.run_pure, Result.andThen_ok, hrun], h⟩
theorem Mine.rd_argall (ty : TypeId) (x : Operand) (ho : o.op = .load ty x) (g p : Nat) (hx : a.eval x = .pointer (some ⟨g, p, none⟩)) (row : List Value) (hr : b.rangeAt g p row) (hg : g < b.heap.size)
    (d : TypeDesc) (hu : P.underlying ty = some d) (hd : d.isRow = true) (hf : (P.info? ty).map (·.size) = some row.length) (h : K (a.put o.dst (.agg row.toArray))) : Reads P o a (fun w' => Mine b w' rs) K :=
  ⟨.agg row.toArray, fun w' M => by
    have hrun := run_loadVar_mid (P := P) w' g p ty row d (fun j v hv => (M.ext.cell (p := ⟨g, p + j, none⟩) hg).trans (hr j v hv)) hu hd hf
    unfold execOp
    simp only [ho, hx, Instr.loadAt, Instr.sureAddr, Sem.run_bind, Sem.run_pure, Result.andThen_ok, hrun], h⟩
theorem Mine.oq_getall (ty : TypeId) (x : Operand) (ho : o.op = .load ty x) (i : Nat) {g : Nat} {t : TypeId} {cs : Array Value} (hi : rs[i]? = some (.box g t cs)) (hx : a.eval x = .pointer (some ⟨g, 0, none⟩))
    (d : TypeDesc) (hu : P.underlying ty = some d) (hd : d.isRow = true) (hf : (P.info? ty).map (·.size) = some cs.size) (h : K (a.put o.dst (.agg cs))) : Oper.quiet P o a (fun w' => Mine b w' rs) K :=
  ⟨.agg cs, fun w' M => by
    have hrun := run_loadVar_mid (P := P) w' g 0 ty cs.toList d (fun k v hv => by rw [Nat.zero_add, (M.box_at i hi).cell]; simpa using hv) hu hd (by simpa using hf)
    unfold Oper.quietAt execOp
    simp only [ho, hx, Instr.loadAt, Instr.sureAddr, Sem.run_bind, Sem.run_pure, Result.andThen_ok, hrun]
    exact ⟨rfl, rfl⟩, h⟩
theorem Mine.oq_argall (ty : TypeId) (x : Operand) (ho : o.op = .load ty x) (g p : Nat) (hx : a.eval x = .pointer (some ⟨g, p, none⟩)) (row : List Value) (hr : b.rangeAt g p row) (hg : g < b.heap.size)
    (d : TypeDesc) (hu : P.underlying ty = some d) (hd : d.isRow = true) (hf : (P.info? ty).map (·.size) = some row.length) (h : K (a.put o.dst (.agg row.toArray))) : Oper.quiet P o a (fun w' => Mine b w' rs) K :=
  ⟨.agg row.toArray, fun w' M => by
    have hrun := run_loadVar_mid (P := P) w' g p ty row d (fun j v hv => (M.ext.cell (p := ⟨g, p + j, none⟩) hg).trans (hr j v hv)) hu hd hf
    unfold Oper.quietAt execOp
    simp only [ho, hx, Instr.loadAt, Instr.sureAddr, Sem.run_bind, Sem.run_pure, Result.andThen_ok, hrun]
    exact ⟨rfl, rfl⟩, h⟩
theorem Mine.oq_arg (ty : TypeId) (x : Operand) (ho : o.op = .load ty x) (p : Addr) (v : Value) (hc : b.cell? p = some v ∧ p.block < b.heap.size) (hx : a.eval x = .pointer (some p))
    (d : TypeDesc) (hu : P.underlying ty = some d) (hd : d.isRow = false) (h : K (a.put o.dst v)) : Oper.quiet P o a (fun w' => Mine b w' rs) K :=
  ⟨v, fun w' M => by
    unfold Oper.quietAt execOp
    simp only [ho, hx, Instr.loadAt, Instr.sureAddr, Sem.run_bind, Sem.run_pure, Result.andThen_ok, run_loadVar_cell w' _ ty v d ((M.ext.cell hc.2).trans hc.1) hu hd]
    exact ⟨rfl, rfl⟩, h⟩
end
theorem HQ.takeL {P : Program} {md : Region.Mode} {l : List Oper} {Q : Exit → Act → World → Prop} {S : World → Prop} {n f : Nat} {listed : Array Bool} {a : Act} {w : World} {i : Nat} {oi : Oper} (hi : l[i]? = some oi) (hB : headB md l n = true) (hf : Region.free md l.toArray listed i = true) (hr : (Region.ready md l.toArray listed).contains i = true) (hin : i < n) (hg : oi.guard = none)
    (hQ : ∀ v c a w, Q (.panic c) (a.put oi.dst v) w → Q (.panic c) a w) (h : ∀ K : Act → Prop, (∀ a', HQ P md l Q S n f (listed.setIfInBounds i true) a' w → K a') → Reads P oi a S K) : HQ P md l Q S n (f + 1) listed a w :=
  HQ.take (by simpa using hi) hB hf hr hin hg hQ h
end Go.Proofs.YtglplgbhhnmgbaaGreat
