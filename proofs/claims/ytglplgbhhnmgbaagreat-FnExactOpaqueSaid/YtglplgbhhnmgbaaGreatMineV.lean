/- The walk over what a call owns: structs by value (parameters, results), made slices. No condition. -/
import Derived.Test.YtglplgbhhnmgbaaGreatMineQ
import Derived.OwnWalk
namespace Go.Proofs.YtglplgbhhnmgbaaGreat
open Go.RowKit Go.Deep
set_option linter.unusedSimpArgs false
set_option linter.unusedVariables false

section
variable {P : Program} {ops : Array Oper} {rest : List Oper} {o : Oper} {a : Act} {Q : Exit → Act → World → Prop} {b w : World} {rs : List Res}
/-- A parameter that is a struct gets its variable. -/
theorem Mine.wp_box (M : Mine b w rs) (hgd : o.guard = none) (ty : TypeId) (x : Operand) (ho : o.op = .box ty x) (vs : List Value) (hx : a.eval x = .agg vs.toArray)
    (h : ∀ g w', Mine b w' (.box g ty vs.toArray :: rs) → wpList P ops Q rest (a.put o.dst (.pointer (some ⟨g, 0, none⟩))) w') : wpList P ops Q (o :: rest) a w :=
  wpList_plain hgd fun _ hK => by
    have := h _ _ (M.box ty vs.toArray)
    unfold Oper.wp execOp
    simp [ho, hx, Instr.box, newVar, newRow, Value.cells]
    exact hK _ _ this
/-- make([]E, n). -/
theorem Mine.wp_make (M : Mine b w rs) (hgd : o.guard = none) (l c : Operand) (t : TypeId) (ho : o.op = .makeSlice t l c) (e : TypeId) (z : Value) (size bytes : Nat) (ht : P.underlying t = some (.slice e))
    (hf : (P.info? e).map (fun i => (i.zero, i.size, i.bytes)) = some (some z, size, bytes)) (n : Nat) (hl : a.eval l = .int .i64 n) (hc : a.eval c = .int .i64 n) (hb : bytes * n ≤ 281474976710656) (hn : n ≤ maxLen)
    (h : ∀ g w', Mine b w' (.row e size (some ⟨g, 0, none⟩) n n (madeCells z.cells (n * size)).toList :: rs) → wpList P ops Q rest (a.put o.dst (.slice (some ⟨g, 0, none⟩) n n)) w') : wpList P ops Q (o :: rest) a w := by
  obtain ⟨i, hi, hz, hs, hby⟩ := info_parts hf
  subst hby
  refine wpList_make_full w hgd l c t ho w.heap.size e i z size ht hi hz hs .i64 .i64 n n n hl hc rfl rfl hb hn (Nat.le_refl _) ?_
  intro w' hown hg
  exact h _ _ (M.own hown ((Ext.refl' w).grown' hg (fun k hk => by cases hk)))
theorem Mine.results_cell {fn : Func} {s : Tmp} {ty : TypeId} (hr : fn.results = #[.cell s ty]) (M : Mine b w rs) (tmps : Array Value) (i : Nat) {g : Nat} {t : TypeId} {vs : List Value} (hi : rs[i]? = some (.box g t vs.toArray)) (hx : tmps.getD s undef = .pointer (some ⟨g, 0, none⟩))
    (d : TypeDesc) (hu : P.underlying ty = some d) (hd : d.isRow = true) (hf : (P.info? ty).map (·.size) = some vs.length) : (results fn tmps).run P w = .ok (.agg vs.toArray) w := by
  have hrun := run_loadVar_mid (P := P) w g 0 ty vs d (fun k v hv => by rw [Nat.zero_add, (M.box_at i hi).cell]; simpa using hv) hu hd hf
  have hx' : tmps[s]?.getD undef = .pointer (some ⟨g, 0, none⟩) := by simpa using hx
  simp [results, hr, asAddr, hx', hrun]
theorem Mine.results_cell2 {fn : Func} {s k : Tmp} {ty : TypeId} (hr : fn.results = #[.cell s ty, .tmp k]) (M : Mine b w rs) (tmps : Array Value) (i : Nat) {g : Nat} {t : TypeId} {vs : List Value} (hi : rs[i]? = some (.box g t vs.toArray)) (hx : tmps.getD s undef = .pointer (some ⟨g, 0, none⟩))
    (d : TypeDesc) (hu : P.underlying ty = some d) (hd : d.isRow = true) (hf : (P.info? ty).map (·.size) = some vs.length) : (results fn tmps).run P w = .ok (.tuple #[.agg vs.toArray, tmps.getD k undef]) w := by
  have hrun := run_loadVar_mid (P := P) w g 0 ty vs d (fun k v hv => by rw [Nat.zero_add, (M.box_at i hi).cell]; simpa using hv) hu hd hf
  have hx' : tmps[s]?.getD undef = .pointer (some ⟨g, 0, none⟩) := by simpa using hx
  simp [results, hr, asAddr, hx', hrun]
theorem wpList_load_cellg (hw : Region.wanted o (yielded ops a.tmps) = true) (ty : TypeId) (x : Operand) (ho : o.op = .load ty x) (p : Addr) (hx : a.eval x = .pointer (some p)) (v : Value) (hc : w.cell? p = some v) (d : TypeDesc) (hu : P.underlying ty = some d) (hd : d.isRow = false)
    (h : wpList P ops Q rest (a.put o.dst v) w) : wpList P ops Q (o :: rest) a w :=
  BigFrame.wpList_want hw fun _ hK => by
    unfold Oper.wp execOp
    simp only [ho, hx, Instr.loadAt, Instr.sureAddr, Sem.run_bind, Sem.run_pure, Result.andThen_ok, run_loadVar_cell w p ty v d hc hu hd]
    exact hK _ _ h
theorem Mine.wp_getg (M : Mine b w rs) (hw : Region.wanted o (yielded ops a.tmps) = true) (ty : TypeId) (x : Operand) (ho : o.op = .load ty x) (i j : Nat) {g : Nat} {t : TypeId} {cs : Array Value} (hi : rs[i]? = some (.box g t cs)) (hx : a.eval x = .pointer (some ⟨g, j, none⟩)) (v : Value) (hv : cs[j]? = some v)
    (d : TypeDesc) (hu : P.underlying ty = some d) (hd : d.isRow = false) (h : wpList P ops Q rest (a.put o.dst v) w) : wpList P ops Q (o :: rest) a w :=
  wpList_load_cellg hw ty x ho _ hx v (((M.box_at i hi).cell j).trans hv) d hu hd h
theorem Mine.wp_getrg (M : Mine b w rs) (hw : Region.wanted o (yielded ops a.tmps) = true) (ty : TypeId) (x : Operand) (ho : o.op = .load ty x) (i j : Nat) {g : Nat} {e : TypeId} {size n c : Nat} {xs : List Value} (hi : rs[i]? = some (.row e size (some ⟨g, 0, none⟩) n c xs)) (hx : a.eval x = .pointer (some ⟨g, j, none⟩)) (v : Value) (hv : xs[j]? = some v)
    (d : TypeDesc) (hu : P.underlying ty = some d) (hd : d.isRow = false) (h : wpList P ops Q rest (a.put o.dst v) w) : wpList P ops Q (o :: rest) a w :=
  wpList_load_cellg hw ty x ho _ hx v (((M.row_at i hi).cellAt j (by have h1 := (M.row_at i hi).1; have h2 := (List.getElem?_eq_some_iff.1 hv).1; omega)).trans hv) d hu hd h
/-- A slice that owns nothing. -/
theorem Mine.nil (M : Mine b w rs) (e : TypeId) (size : Nat) : Mine b w (.row e size none 0 0 [] :: rs) :=
  ⟨M.ext, fun r hr => by
    rcases List.mem_cons.1 hr with q | q
    · subst q; exact ⟨by simp, .inl ⟨rfl, rfl⟩⟩
    · exact M.all r q, List.pairwise_cons.2 ⟨fun r _ g hg => (by cases hg), M.far⟩⟩
end
end Go.Proofs.YtglplgbhhnmgbaaGreat
