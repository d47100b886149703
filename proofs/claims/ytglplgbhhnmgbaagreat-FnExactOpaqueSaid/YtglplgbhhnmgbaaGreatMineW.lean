/- The walk over what a call owns: reads, new variables. No condition. -/
import Derived.Test.YtglplgbhhnmgbaaGreatMine
namespace Go.Proofs.YtglplgbhhnmgbaaGreat
open Go.RowKit Go.Deep
set_option linter.unusedSimpArgs false
set_option linter.unusedVariables false

theorem run_loadVar_cell {P : Program} (w : World) (p : Addr) (ty : TypeId) (v : Value) (d : TypeDesc) (hc : w.cell? p = some v) (hu : P.underlying ty = some d) (hd : d.isRow = false) : (loadVar ty p).run P w = .ok v w := by
  have hagg : (isAgg ty).run P w = .ok false w := by
    unfold isAgg
    rw [Sem.run_bind, run_underlying hu w]
    cases d <;> simp_all [TypeDesc.isRow]
  simp [loadVar, Sem.run_bind, hagg, hc]
section
variable {P : Program} {ops : Array Oper} {rest : List Oper} {o : Oper} {a : Act} {Q : Exit → Act → World → Prop} {b w : World} {rs : List Res}
theorem wpList_load_cell (hgd : o.guard = none) (ty : TypeId) (x : Operand) (ho : o.op = .load ty x) (p : Addr) (hx : a.eval x = .pointer (some p)) (v : Value) (hc : w.cell? p = some v) (d : TypeDesc) (hu : P.underlying ty = some d) (hd : d.isRow = false)
    (h : wpList P ops Q rest (a.put o.dst v) w) : wpList P ops Q (o :: rest) a w :=
  wpList_plain hgd fun _ hK => by
    unfold Oper.wp execOp
    simp only [ho, hx, Instr.loadAt, Instr.sureAddr, Sem.run_bind, Sem.run_pure, Result.andThen_ok, run_loadVar_cell w p ty v d hc hu hd]
    exact hK _ _ h
/-- A cell of a box is read. -/
theorem Mine.wp_get (M : Mine b w rs) (hgd : o.guard = none) (ty : TypeId) (x : Operand) (ho : o.op = .load ty x) (i j : Nat) {g : Nat} {t : TypeId} {cs : Array Value} (hi : rs[i]? = some (.box g t cs)) (hx : a.eval x = .pointer (some ⟨g, j, none⟩)) (v : Value) (hv : cs[j]? = some v)
    (d : TypeDesc) (hu : P.underlying ty = some d) (hd : d.isRow = false) (h : wpList P ops Q rest (a.put o.dst v) w) : wpList P ops Q (o :: rest) a w :=
  wpList_load_cell hgd ty x ho _ hx v (((M.box_at i hi).cell j).trans hv) d hu hd h
/-- A struct of a box is read, or the box whole. -/
theorem Mine.wp_gets (M : Mine b w rs) (hgd : o.guard = none) (ty : TypeId) (x : Operand) (ho : o.op = .load ty x) (i j m : Nat) {g : Nat} {t : TypeId} {cs : List Value} (hi : rs[i]? = some (.box g t cs.toArray)) (hx : a.eval x = .pointer (some ⟨g, j, none⟩)) (hm : j + m ≤ cs.length)
    (d : TypeDesc) (hu : P.underlying ty = some d) (hd : d.isRow = true) (hf : (P.info? ty).map (·.size) = some m) (h : wpList P ops Q rest (a.put o.dst (.agg ((cs.drop j).take m).toArray)) w) : wpList P ops Q (o :: rest) a w := by
  refine wpList_load_mid hgd ty x ho g j hx _ d (fun k v hv => ?_) hu hd (by rw [hf, List.length_take, List.length_drop]; congr 1; omega) h
  rw [(M.box_at i hi).cell]
  rw [List.getElem?_take] at hv
  split at hv
  · rw [List.getElem?_drop] at hv; simpa using hv
  · cases hv
/-- A cell of a row is read. -/
theorem Mine.wp_getr (M : Mine b w rs) (hgd : o.guard = none) (ty : TypeId) (x : Operand) (ho : o.op = .load ty x) (i j : Nat) {g : Nat} {e : TypeId} {size n c : Nat} {xs : List Value} (hi : rs[i]? = some (.row e size (some ⟨g, 0, none⟩) n c xs)) (hx : a.eval x = .pointer (some ⟨g, j, none⟩)) (v : Value) (hv : xs[j]? = some v)
    (d : TypeDesc) (hu : P.underlying ty = some d) (hd : d.isRow = false) (h : wpList P ops Q rest (a.put o.dst v) w) : wpList P ops Q (o :: rest) a w :=
  wpList_load_cell hgd ty x ho _ hx v (((M.row_at i hi).cellAt j (by have h1 := (M.row_at i hi).1; have h2 := (List.getElem?_eq_some_iff.1 hv).1; omega)).trans hv) d hu hd h
/-- A struct of a row is read. -/
theorem Mine.wp_getrs (M : Mine b w rs) (hgd : o.guard = none) (ty : TypeId) (x : Operand) (ho : o.op = .load ty x) (i j : Nat) {g : Nat} {e : TypeId} {size n c : Nat} {xs : List Value} (hi : rs[i]? = some (.row e size (some ⟨g, 0, none⟩) n c xs)) (hx : a.eval x = .pointer (some ⟨g, j, none⟩)) (vs : List Value) (hv : ∀ k, k < vs.length → xs[j + k]? = vs[k]?)
    (d : TypeDesc) (hu : P.underlying ty = some d) (hd : d.isRow = true) (hf : (P.info? ty).map (·.size) = some vs.length) (h : wpList P ops Q rest (a.put o.dst (.agg vs.toArray)) w) : wpList P ops Q (o :: rest) a w := by
  refine wpList_load_mid hgd ty x ho g j hx vs d (fun k v hk => ?_) hu hd hf h
  have hkl := (List.getElem?_eq_some_iff.1 hk).1
  have h1 := (hv k hkl).trans hk
  rw [(M.row_at i hi).cellAt _ (by have h2 := (M.row_at i hi).1; have h3 := (List.getElem?_eq_some_iff.1 h1).1; omega)]
  exact h1
/-- A new variable. -/
theorem Mine.wp_alloc (M : Mine b w rs) (hgd : o.guard = none) (ty : TypeId) (ho : o.op = .alloc ty) (z : Value) (hz : (P.info? ty).map (·.zero) = some (some z)) (h : ∀ g w', Mine b w' (.box g ty z.cells :: rs) → wpList P ops Q rest (a.put o.dst (.pointer (some ⟨g, 0, none⟩))) w') : wpList P ops Q (o :: rest) a w :=
  wpList_plain hgd fun _ hK => by
    cases hq : P.info? ty with
    | none => simp [hq] at hz
    | some i =>
      have hz' : i.zero = some z := by simpa [hq] using hz
      have := h _ _ (M.box ty z.cells)
      unfold Oper.wp execOp
      simp [ho, Instr.alloc, zeroValue, typeInfo, hq, hz', newVar, newRow]
      exact hK _ _ this
/-- append(s, x) as a step of a region that draws. -/
theorem Mine.step_push {K : Act → World → Prop} {E : Prop} (M : Mine b w rs) (hgd : o.guard = none) (s x : Operand) (t : TypeId) (ho : o.op = .call { callee := .builtin .append, args := #[s, x], argTypes := #[t, t] })
    (e : TypeId) (z : Value) (size bytes : Nat) (ht : P.underlying t = some (.slice e)) (hf : (P.info? e).map (fun i => (i.zero, i.size, i.bytes)) = some (some z, size, bytes)) (hzs : z.cells.size = size) (hsz : 0 < size)
    (i : Nat) {A : Option Addr} {n c : Nat} {xs : List Value} (hi : rs[i]? = some (.row e size A n c xs)) (hs : a.eval s = .slice A n c)
    (news : List Value) (gn : Nat) (hgn : gn = w.heap.size) (hx : a.eval x = .slice (some ⟨gn, 0, none⟩) 1 1) (hl : news.length = size) (h1 : ∀ u ∈ news, u.oneCell' = true)
    (hbytes : (n + 1) * bytes ≤ 140737488355328) (h63 : n + 1 ≤ maxLen)
    (h : ∀ A' c' w', Mine b w' (rs.set i (.row e size A' (n + 1) c' (xs ++ news))) → K (a.put o.dst (.slice A' (n + 1) c')) w') :
    if Region.wanted o (yielded ops a.tmps) = true then Oper.wp P o a (w.alloc (.cells news.toArray e)) K Q else E := by
  have hw : Region.wanted o (yielded ops a.tmps) = true := by simp [Region.wanted, hgd]
  rw [if_pos hw]
  subst hgn
  obtain ⟨i0, hf, hz0, hz1, hz2⟩ := info_parts hf
  obtain ⟨v', w', hrun, h2, h3, _, h5⟩ := run_append_own_at (P := P) (w.alloc (.cells news.toArray e)) b.heap.size t o.type e i0 z size bytes ht hf hz0 hz1 hz2 hzs hsz (.slice A n c) n xs ((M.row_at i hi).alloc _) ⟨w.heap.size, 0, none⟩ 1 1 news (by omega) (by
    intro j u hu
    have hadd : (⟨w.heap.size, 0, none⟩ : Addr).add j = ⟨w.heap.size, j, none⟩ := by unfold Addr.add; split <;> simp_all
    rw [hadd, cell_of_row _ w.heap.size j news.toArray e (0, 0) (heap_alloc_new w _)]
    simpa using hu) h1 h63 hbytes (by have := M.size; simp; omega)
  obtain ⟨A', c', rfl⟩ : ∃ A' c', v' = .slice A' (n + 1) c' := by
    rcases h2.2 with ⟨_, h0⟩ | ⟨g, cap, cur, hv, _⟩
    · omega
    · exact ⟨_, _, hv⟩
  unfold Oper.wp execOp
  simp [ho, resolve, invoke, builtin, hs, hx, hrun, Result.andThen]
  refine h A' c' w' (M.swap hi (((Chg.refl _ w).al _).grown h3 (fun k hk => .inl hk)) (fun g hg => hg) h2 fun g hg => ?_)
  rcases h5 with q | q
  · exact .inl (by show (Value.slice A n c).ownBlock = some g; rw [← q]; exact hg)
  · right
    have hg' : (Value.slice A' (n + 1) c').ownBlock = some g := hg
    rw [q] at hg'
    injection hg' with hg'
    simp at hg'
    omega
end
end Go.Proofs.YtglplgbhhnmgbaaGreat
