/- The walk over what a call owns, in a region that draws its order. No condition. -/
import Derived.Test.YtglplgbhhnmgbaaGreatMineW
import Derived.Test.YtglplgbhhnmgbaaGreatRegT
import Derived.BigQuiet
namespace Go.Proofs.YtglplgbhhnmgbaaGreat
open Go.RowKit Go.Deep
set_option linter.unusedSimpArgs false
set_option linter.unusedVariables false

section
variable {P : Program} {ops : Array Oper} {rest : List Oper} {o : Oper} {a : Act} {b w : World} {rs : List Res}
theorem Mine.region_quiet {id : Nat} {Q : Exit → Act → World → Prop} {l : List Oper} (M : Mine b w rs) (hm : P.follows .mixedOrders = true) (hB : Region.lexB .any l.toArray = true)
    (h : wpQuiet P l.toArray (fun w' => Mine b w' rs) (fun a' => ∀ w', Mine b w' rs → Q .normal a' w') l a) : (Code.region id l.toArray true).wp P Q a w := region_class _ hm hB M.dr h
theorem Mine.region_tail {id : Nat} {Q : Exit → Act → World → Prop} {l : List Oper} (M : Mine b w rs) (n : Nat) (hm : P.follows .mixedOrders = true) (hB : Region.lexTailB .any l.toArray n = true)
    (h : wpQuiet P l.toArray (fun w' => Mine b w' rs) (fun a' => ∀ w', Mine b w' rs → wpList P l.toArray Q (l.drop n) a' w') (l.take n) a) : (Code.region id l.toArray true).wp P Q a w := YtglplgbhhnmgbaaGreat.region_tail n _ hm hB M.dr h
variable {Q : Act → Prop}
theorem wanted_none (h : o.guard = none) (t : Array Value) : Region.wanted o (yielded ops t) = true := by simp [Region.wanted, h]
theorem Mine.q_get (hw : Region.wanted o (yielded ops a.tmps) = true) (ty : TypeId) (x : Operand) (ho : o.op = .load ty x) (i j : Nat) {g : Nat} {t : TypeId} {cs : Array Value} (hi : rs[i]? = some (.box g t cs)) (hx : a.eval x = .pointer (some ⟨g, j, none⟩)) (v : Value) (hv : cs[j]? = some v)
    (d : TypeDesc) (hu : P.underlying ty = some d) (hd : d.isRow = false) (h : wpQuiet P ops (fun w' => Mine b w' rs) Q rest (a.put o.dst v)) : wpQuiet P ops (fun w' => Mine b w' rs) Q (o :: rest) a :=
  BigFrame.wpQuiet_want hw fun K hK => ⟨v, fun w' M => by
    unfold Oper.quietAt execOp
    simp only [ho, hx, Instr.loadAt, Instr.sureAddr, Sem.run_bind, Sem.run_pure, Result.andThen_ok, run_loadVar_cell w' _ ty v d (((M.box_at i hi).cell j).trans hv) hu hd]
    exact ⟨rfl, rfl⟩, hK _ h⟩
theorem Mine.q_getr (hw : Region.wanted o (yielded ops a.tmps) = true) (ty : TypeId) (x : Operand) (ho : o.op = .load ty x) (i j : Nat) {g : Nat} {e : TypeId} {size n c : Nat} {xs : List Value} (hi : rs[i]? = some (.row e size (some ⟨g, 0, none⟩) n c xs)) (hx : a.eval x = .pointer (some ⟨g, j, none⟩)) (v : Value) (hv : xs[j]? = some v)
    (d : TypeDesc) (hu : P.underlying ty = some d) (hd : d.isRow = false) (h : wpQuiet P ops (fun w' => Mine b w' rs) Q rest (a.put o.dst v)) : wpQuiet P ops (fun w' => Mine b w' rs) Q (o :: rest) a :=
  BigFrame.wpQuiet_want hw fun K hK => ⟨v, fun w' M => by
    unfold Oper.quietAt execOp
    simp only [ho, hx, Instr.loadAt, Instr.sureAddr, Sem.run_bind, Sem.run_pure, Result.andThen_ok, run_loadVar_cell w' _ ty v d (((M.row_at i hi).cellAt j (by have h1 := (M.row_at i hi).1; have h2 := (List.getElem?_eq_some_iff.1 hv).1; omega)).trans hv) hu hd]
    exact ⟨rfl, rfl⟩, hK _ h⟩
theorem Mine.q_gets (hw : Region.wanted o (yielded ops a.tmps) = true) (ty : TypeId) (x : Operand) (ho : o.op = .load ty x) (i j m : Nat) {g : Nat} {t : TypeId} {cs : List Value} (hi : rs[i]? = some (.box g t cs.toArray)) (hx : a.eval x = .pointer (some ⟨g, j, none⟩)) (hm : j + m ≤ cs.length)
    (d : TypeDesc) (hu : P.underlying ty = some d) (hd : d.isRow = true) (hf : (P.info? ty).map (·.size) = some m) (h : wpQuiet P ops (fun w' => Mine b w' rs) Q rest (a.put o.dst (.agg ((cs.drop j).take m).toArray))) : wpQuiet P ops (fun w' => Mine b w' rs) Q (o :: rest) a :=
  BigFrame.wpQuiet_want hw fun K hK => ⟨.agg ((cs.drop j).take m).toArray, fun w' M => by
    have hrun := run_loadVar_mid (P := P) w' g j ty ((cs.drop j).take m) d (fun k v hv => by
      rw [(M.box_at i hi).cell]
      rw [List.getElem?_take] at hv
      split at hv
      · rw [List.getElem?_drop] at hv; simpa using hv
      · cases hv) hu hd (by rw [hf, List.length_take, List.length_drop]; congr 1; omega)
    unfold Oper.quietAt execOp
    simp only [ho, hx, Instr.loadAt, Instr.sureAddr, Sem.run_bind, Sem.run_pure, Result.andThen_ok, hrun]
    exact ⟨rfl, rfl⟩, hK _ h⟩
theorem Mine.q_getrs (hw : Region.wanted o (yielded ops a.tmps) = true) (ty : TypeId) (x : Operand) (ho : o.op = .load ty x) (i j : Nat) {g : Nat} {e : TypeId} {size n c : Nat} {xs : List Value} (hi : rs[i]? = some (.row e size (some ⟨g, 0, none⟩) n c xs)) (hx : a.eval x = .pointer (some ⟨g, j, none⟩)) (vs : List Value) (hv : ∀ k, k < vs.length → xs[j + k]? = vs[k]?)
    (d : TypeDesc) (hu : P.underlying ty = some d) (hd : d.isRow = true) (hf : (P.info? ty).map (·.size) = some vs.length) (h : wpQuiet P ops (fun w' => Mine b w' rs) Q rest (a.put o.dst (.agg vs.toArray))) : wpQuiet P ops (fun w' => Mine b w' rs) Q (o :: rest) a :=
  BigFrame.wpQuiet_want hw fun K hK => ⟨.agg vs.toArray, fun w' M => by
    have hrun := run_loadVar_mid (P := P) w' g j ty vs d (fun k v hk => by
      have hkl := (List.getElem?_eq_some_iff.1 hk).1
      have h1 := (hv k hkl).trans hk
      rw [(M.row_at i hi).cellAt _ (by have h2 := (M.row_at i hi).1; have h3 := (List.getElem?_eq_some_iff.1 h1).1; omega)]
      exact h1) hu hd hf
    unfold Oper.quietAt execOp
    simp only [ho, hx, Instr.loadAt, Instr.sureAddr, Sem.run_bind, Sem.run_pure, Result.andThen_ok, hrun]
    exact ⟨rfl, rfl⟩, hK _ h⟩
theorem Mine.oq_get {K : Act → Prop} (ty : TypeId) (x : Operand) (ho : o.op = .load ty x) (i j : Nat) {g : Nat} {t : TypeId} {cs : Array Value} (hi : rs[i]? = some (.box g t cs)) (hx : a.eval x = .pointer (some ⟨g, j, none⟩)) (v : Value) (hv : cs[j]? = some v)
    (d : TypeDesc) (hu : P.underlying ty = some d) (hd : d.isRow = false) (h : K (a.put o.dst v)) : Oper.quiet P o a (fun w' => Mine b w' rs) K :=
  ⟨v, fun w' M => by
    unfold Oper.quietAt execOp
    simp only [ho, hx, Instr.loadAt, Instr.sureAddr, Sem.run_bind, Sem.run_pure, Result.andThen_ok, run_loadVar_cell w' _ ty v d (((M.box_at i hi).cell j).trans hv) hu hd]
    exact ⟨rfl, rfl⟩, h⟩
theorem Mine.oq_getr {K : Act → Prop} (ty : TypeId) (x : Operand) (ho : o.op = .load ty x) (i j : Nat) {g : Nat} {e : TypeId} {size n c : Nat} {xs : List Value} (hi : rs[i]? = some (.row e size (some ⟨g, 0, none⟩) n c xs)) (hx : a.eval x = .pointer (some ⟨g, j, none⟩)) (v : Value) (hv : xs[j]? = some v)
    (d : TypeDesc) (hu : P.underlying ty = some d) (hd : d.isRow = false) (h : K (a.put o.dst v)) : Oper.quiet P o a (fun w' => Mine b w' rs) K :=
  ⟨v, fun w' M => by
    unfold Oper.quietAt execOp
    simp only [ho, hx, Instr.loadAt, Instr.sureAddr, Sem.run_bind, Sem.run_pure, Result.andThen_ok, run_loadVar_cell w' _ ty v d (((M.row_at i hi).cellAt j (by have h1 := (M.row_at i hi).1; have h2 := (List.getElem?_eq_some_iff.1 hv).1; omega)).trans hv) hu hd]
    exact ⟨rfl, rfl⟩, h⟩
theorem Mine.oq_gets {K : Act → Prop} (ty : TypeId) (x : Operand) (ho : o.op = .load ty x) (i j m : Nat) {g : Nat} {t : TypeId} {cs : List Value} (hi : rs[i]? = some (.box g t cs.toArray)) (hx : a.eval x = .pointer (some ⟨g, j, none⟩)) (hm : j + m ≤ cs.length)
    (d : TypeDesc) (hu : P.underlying ty = some d) (hd : d.isRow = true) (hf : (P.info? ty).map (·.size) = some m) (h : K (a.put o.dst (.agg ((cs.drop j).take m).toArray))) : Oper.quiet P o a (fun w' => Mine b w' rs) K :=
  ⟨.agg ((cs.drop j).take m).toArray, fun w' M => by
    have hrun := run_loadVar_mid (P := P) w' g j ty ((cs.drop j).take m) d (fun k v hv => by
      rw [(M.box_at i hi).cell]
      rw [List.getElem?_take] at hv
      split at hv
      · rw [List.getElem?_drop] at hv; simpa using hv
      · cases hv) hu hd (by rw [hf, List.length_take, List.length_drop]; congr 1; omega)
    unfold Oper.quietAt execOp
    simp only [ho, hx, Instr.loadAt, Instr.sureAddr, Sem.run_bind, Sem.run_pure, Result.andThen_ok, hrun]
    exact ⟨rfl, rfl⟩, h⟩
theorem Mine.oq_getrs {K : Act → Prop} (ty : TypeId) (x : Operand) (ho : o.op = .load ty x) (i j : Nat) {g : Nat} {e : TypeId} {size n c : Nat} {xs : List Value} (hi : rs[i]? = some (.row e size (some ⟨g, 0, none⟩) n c xs)) (hx : a.eval x = .pointer (some ⟨g, j, none⟩)) (vs : List Value) (hv : ∀ k, k < vs.length → xs[j + k]? = vs[k]?)
    (d : TypeDesc) (hu : P.underlying ty = some d) (hd : d.isRow = true) (hf : (P.info? ty).map (·.size) = some vs.length) (h : K (a.put o.dst (.agg vs.toArray))) : Oper.quiet P o a (fun w' => Mine b w' rs) K :=
  ⟨.agg vs.toArray, fun w' M => by
    have hrun := run_loadVar_mid (P := P) w' g j ty vs d (fun k v hk => by
      have hkl := (List.getElem?_eq_some_iff.1 hk).1
      have h1 := (hv k hkl).trans hk
      rw [(M.row_at i hi).cellAt _ (by have h2 := (M.row_at i hi).1; have h3 := (List.getElem?_eq_some_iff.1 h1).1; omega)]
      exact h1) hu hd hf
    unfold Oper.quietAt execOp
    simp only [ho, hx, Instr.loadAt, Instr.sureAddr, Sem.run_bind, Sem.run_pure, Result.andThen_ok, hrun]
    exact ⟨rfl, rfl⟩, h⟩
/-- 's[k:]' of a row that is owned. -/
theorem run_from {w : World} {P : Program} (t e : TypeId) (size : Nat) (ht : P.underlying t = some (.slice e)) (hf : (P.info? e).map (·.size) = some size) (g n c k : Nat) (hk : k ≤ n) :
    (Instr.slice t (.slice (some ⟨g, 0, none⟩) n c) (some (.int .i64 (k : Int))) none none).run P w = .ok (.slice (some (if c = k then ⟨g, 0, none⟩ else ⟨g, k * size, none⟩)) (n - k) (c - k)) w := by
  have ht' : P.underlying t = some (.slice (P.elem t)) := by simp [Program.elem, ht]
  have he : P.elem t = e := by simp [Program.elem, ht]
  have hz : (Go.sizeOf e).run P w = .ok size w := by
    cases hq : P.info? e with
    | none => simp [hq] at hf
    | some i => simp [hq] at hf; simp [sizeOf, typeInfo, hq, hf]
  rw [run_slice_l w t _ _ _ ht' .i64 _ (by omega) (by omega), he, hz]
  by_cases h0 : c = k
  · simp [Result.andThen, sliced, h0]
  · simp [Result.andThen, sliced, Addr.add, h0]; intro h; exact h.symm
theorem oq_from {C : World → Prop} {K : Act → Prop} (t : TypeId) (x y : Operand) (ho : o.op = .slice t x (some y) none none) {g n c k : Nat} {e : TypeId} (size : Nat) (hx : a.eval x = .slice (some ⟨g, 0, none⟩) n c) (hy : a.eval y = .int .i64 (k : Int)) (ht : P.underlying t = some (.slice e)) (hf : (P.info? e).map (·.size) = some size) (hk : k ≤ n)
    (h : ∀ D, Hid (D = if c = k then ⟨g, 0, none⟩ else ⟨g, k * size, none⟩) → K (a.put o.dst (.slice (some D) (n - k) (c - k)))) : Oper.quiet P o a C K :=
  ⟨_, fun w' _ => by
    have ht' : P.underlying t = some (.slice (P.elem t)) := by simp [Program.elem, ht]
    unfold Oper.quietAt execOp
    simp only [ho, Option.map, hx, hy, Sem.run_bind, Sem.run_pure, run_sliceAt_slice (w := w') t (.slice (some ⟨g, 0, none⟩) n c) (some (.int .i64 (k : Int))) none none ht', run_from (w := w') t e size ht hf g n c k hk, Result.andThen]
    exact ⟨rfl, rfl⟩, h _ rfl⟩
theorem Sl.from_ {w : World} {S : Nat → Prop} {size g n c k : Nat} {xs : List Value} {D : Addr} (h : Sl w S size (some ⟨g, 0, none⟩) n xs) (hk : k ≤ n) (hc : n ≤ c) (hD : D = if c = k then ⟨g, 0, none⟩ else ⟨g, k * size, none⟩) : Sl w S size (some D) (n - k) (xs.drop (k * size)) := by
  refine ⟨by rw [List.length_drop, h.1, Nat.sub_mul], fun hn => ?_⟩
  obtain ⟨b, o, e, hs, hb, hcell⟩ := h.2 (by omega)
  injection e with e
  injection e with e1 e2
  subst e1 e2
  rw [if_neg (by omega)] at hD
  subst hD
  refine ⟨_, _, rfl, hs, hb, fun j hj => ?_⟩
  have h1 := hcell (k * size + j) (by rw [Nat.sub_mul] at hj; omega)
  rw [Nat.zero_add] at h1
  rw [h1, List.getElem?_drop]

end
end Go.Proofs.YtglplgbhhnmgbaaGreat
