/- Marks in data with depth, told no more than that they end and what they may change. No condition. -/
import Derived.Test.YtfacckjfoajijaaGreatMark
import Derived.Test.YtfacckjfoajijaaGreatMineW
namespace Go.Proofs.YtfacckjfoajijaaGreat
open Go.RowKit Go.Deep
set_option linter.unusedSimpArgs false
set_option linter.unusedVariables false

/-- An owned row whose elements behind k are as they were, of element k the cells of 'leaf'; what changed lies in T. -/
structure Shake (e : TypeId) (size g n c k : Nat) (leaf : Nat → Prop) (cs : List Value) (T : Nat → Prop) (w0 w : World) : Prop where
  row : ∃ cs', w.ownsRow 0 e size (.slice (some ⟨g, 0, none⟩) n c) n cs' ∧ ∀ i f, f < size → (k < i ∨ (i = k ∧ leaf f)) → cs'[i * size + f]? = cs[i * size + f]?
  chg : Chg T w0 w
  mem : T g
section
variable {e : TypeId} {size g n c k : Nat} {leaf leaf' : Nat → Prop} {cs : List Value} {T T' Q : Nat → Prop} {w0 w w' : World}
theorem Shake.leafs (M : Shake e size g n c k leaf cs T w0 w) (h : ∀ f, leaf' f → leaf f) : Shake e size g n c k leaf' cs T w0 w := by
  obtain ⟨⟨cs', h1, h2⟩, h3, h4⟩ := M
  exact ⟨⟨cs', h1, fun i f hf q => h2 i f hf (q.imp id fun a => ⟨a.1, h f a.2⟩)⟩, h3, h4⟩
theorem Shake.next (M : Shake e size g n c k leaf cs T w0 w) : Shake e size g n c (k + 1) (fun _ => True) cs T w0 w := by
  obtain ⟨⟨cs', h1, h2⟩, h3, h4⟩ := M
  exact ⟨⟨cs', h1, fun i f hf q => h2 i f hf (.inl (by omega))⟩, h3, h4⟩
theorem Shake.mono (M : Shake e size g n c k leaf cs T w0 w) (h : ∀ j, T j → T' j) : Shake e size g n c k leaf cs T' w0 w := by
  obtain ⟨h1, h3, h4⟩ := M
  exact ⟨h1, h3.mono h, h g h4⟩
/-- What lies elsewhere changes. -/
theorem Shake.call (M : Shake e size g n c k leaf cs T w0 w) (h : Chg Q w w') (hg : ¬ Q g) (hQ : ∀ j, Q j → T' j) (hT : ∀ j, T j → T' j) : Shake e size g n c k leaf cs T' w0 w' := by
  obtain ⟨⟨cs', h1, h2⟩, h3, h4⟩ := M
  refine ⟨⟨cs', own_chg h1 h fun j hj => ?_, h2⟩, (h3.mono hT).trans (h.mono hQ), hT g h4⟩
  injection hj with hj
  rw [← hj]
  exact hg
theorem Shake.zero (h : w.ownsRow 0 e size (.slice (some ⟨g, 0, none⟩) n c) n cs) (hg : T g) : Shake e size g n c 0 (fun _ => True) cs T w w := ⟨⟨cs, h, fun _ _ _ _ => rfl⟩, Chg.refl _ _, hg⟩
theorem Shake.put (M : Shake e size g n c k leaf cs T w0 w) (f : Nat) (hf : f < size) (hl : ¬ leaf f) (u : Value) : Shake e size g n c k leaf cs T w0 (w.setCell ⟨g, k * size + f, none⟩ u) := by
  obtain ⟨⟨cs', h1, h2⟩, h3, h4⟩ := M
  refine ⟨⟨cs'.set (k * size + f) u, (h1.stored (k * size + f) u).1, fun i f' hf' q => ?_⟩, h3.sc (p := ⟨g, k * size + f, none⟩) h4 u, h4⟩
  rw [List.getElem?_set_ne]
  · exact h2 i f' hf' q
  · rcases q with q | ⟨q, q2⟩
    · have : (k + 1) * size ≤ i * size := Nat.mul_le_mul_right _ q
      rw [Nat.succ_mul] at this
      omega
    · subst q
      intro e2
      have : f = f' := by omega
      subst this
      exact hl q2
theorem row_in {k n size f : Nat} (hk : k < n) (hf : f < size) : k * size + f < n * size := by
  have : (k + 1) * size ≤ n * size := Nat.mul_le_mul_right _ hk
  rw [Nat.succ_mul] at this
  omega
variable {P : Program} {ops : Array Oper} {rest : List Oper} {o : Oper} {a : Act} {X : Exit → Act → World → Prop}
theorem Shake.wp_put (M : Shake e size g n c k leaf cs T w0 w) (hk : k < n) (hgd : o.guard = none) (ty : TypeId) (x y : Operand) (ho : o.op = .store ty x y) (hd : o.dst = none) (f : Nat) (hx : a.eval x = .pointer (some ⟨g, k * size + f, none⟩)) (u : Value) (hy : a.eval y = u) (hf : f < size) (hl : ¬ leaf f) (h1 : u.oneCell' = true) (hu : (P.info? ty).map (·.size) = some 1)
    (h : ∀ w', Shake e size g n c k leaf cs T w0 w' → wpList P ops X rest a w') : wpList P ops X (o :: rest) a w :=
  wpList_plain hgd fun _ hK => by
    obtain ⟨cs', h2, _⟩ := M.row
    unfold Oper.wp execOp
    simp only [ho, hx, hy, Instr.storeAt, Instr.sureAddr, Sem.run_bind, Sem.run_pure, Result.andThen_ok, run_storeVar_cell w g (k * size + f) ty u (there_row h2 (by have := row_in hk hf; omega)) hu h1]
    have := h _ (M.put f hf hl u)
    exact hK _ _ (by rw [hd]; exact this)
theorem Shake.wp_put0 (M : Shake e size g n c k leaf cs T w0 w) (hk : k < n) (hgd : o.guard = none) (ty : TypeId) (x y : Operand) (ho : o.op = .store ty x y) (hd : o.dst = none) (hx : a.eval x = .pointer (some ⟨g, k * size, none⟩)) (u : Value) (hy : a.eval y = u) (hf : 0 < size) (hl : ¬ leaf 0) (h1 : u.oneCell' = true) (hu : (P.info? ty).map (·.size) = some 1)
    (h : ∀ w', Shake e size g n c k leaf cs T w0 w' → wpList P ops X rest a w') : wpList P ops X (o :: rest) a w :=
  M.wp_put hk hgd ty x y ho hd 0 hx u hy hf hl h1 hu h
theorem Shake.wp_get (M : Shake e size g n c k leaf cs T w0 w) (hk : k < n) (hgd : o.guard = none) (ty : TypeId) (x : Operand) (ho : o.op = .load ty x) (f : Nat) (hx : a.eval x = .pointer (some ⟨g, k * size + f, none⟩)) (hf : f < size) (hl : leaf f) (v : Value) (hv : cs[k * size + f]? = some v)
    (d : TypeDesc) (hu : P.underlying ty = some d) (hd : d.isRow = false) (h : wpList P ops X rest (a.put o.dst v) w) : wpList P ops X (o :: rest) a w := by
  obtain ⟨cs', h2, h3⟩ := M.row
  exact wpList_load_cell hgd ty x ho _ hx v ((h2.cellAt _ (by have := row_in hk hf; omega)).trans ((h3 k f hf (.inr ⟨rfl, hl⟩)).trans hv)) d hu hd h
theorem Shake.wp_put2 (M : Shake e size g n c k leaf cs T w0 w) (hk : k < n) (hgd : o.guard = none) (ty : TypeId) (x y : Operand) (ho : o.op = .store ty x y) (hd : o.dst = none) (f f2 : Nat) (hx : a.eval x = .pointer (some ⟨g, k * size + f + f2, none⟩)) (u : Value) (hy : a.eval y = u) (hf : f + f2 < size) (hl : ¬ leaf (f + f2)) (h1 : u.oneCell' = true) (hu : (P.info? ty).map (·.size) = some 1)
    (h : ∀ w', Shake e size g n c k leaf cs T w0 w' → wpList P ops X rest a w') : wpList P ops X (o :: rest) a w :=
  M.wp_put hk hgd ty x y ho hd (f + f2) (by rw [hx, Nat.add_assoc]) u hy hf hl h1 hu h
theorem Shake.wp_get2 (M : Shake e size g n c k leaf cs T w0 w) (hk : k < n) (hgd : o.guard = none) (ty : TypeId) (x : Operand) (ho : o.op = .load ty x) (f f2 : Nat) (hx : a.eval x = .pointer (some ⟨g, k * size + f + f2, none⟩)) (hf : f + f2 < size) (hl : leaf (f + f2)) (v : Value) (hv : cs[k * size + (f + f2)]? = some v)
    (d : TypeDesc) (hu : P.underlying ty = some d) (hd : d.isRow = false) (h : wpList P ops X rest (a.put o.dst v) w) : wpList P ops X (o :: rest) a w :=
  M.wp_get hk hgd ty x ho (f + f2) (by rw [hx, Nat.add_assoc]) hf hl v hv d hu hd h
theorem Shake.wp_get0 (M : Shake e size g n c k leaf cs T w0 w) (hk : k < n) (hgd : o.guard = none) (ty : TypeId) (x : Operand) (ho : o.op = .load ty x) (hx : a.eval x = .pointer (some ⟨g, k * size, none⟩)) (hf : 0 < size) (hl : leaf 0) (v : Value) (hv : cs[k * size]? = some v)
    (d : TypeDesc) (hu : P.underlying ty = some d) (hd : d.isRow = false) (h : wpList P ops X rest (a.put o.dst v) w) : wpList P ops X (o :: rest) a w :=
  M.wp_get hk hgd ty x ho 0 hx hf hl v hv d hu hd h
end
/-- A count behind a letter. -/
theorem shk {P : Program} {f : FuncId} {args : Array Value} {w : World} {S : Nat → Prop} {q z : Int} (h : Calls P f args w fun e w' => e = .returned (.int .i64 (q + z)) ∧ Chg S w w') :
    Calls P f args w fun e w' => ∃ Q' : Int, e = .returned (.int .i64 Q') ∧ Hid (Q' = q + z) ∧ Chg S w w' := h.mono fun _ _ ⟨h1, h2⟩ => ⟨_, h1, Lib.hid rfl, h2⟩
theorem shk3 {P : Program} {f : FuncId} {args : Array Value} {w : World} {S : Nat → Prop} {q z : Int} {R : World → Prop} (h : Calls P f args w fun e w' => e = .returned (.int .i64 (q + z)) ∧ R w' ∧ Chg S w w') :
    Calls P f args w fun e w' => ∃ Q' : Int, e = .returned (.int .i64 Q') ∧ Hid (Q' = q + z) ∧ Chg S w w' := h.mono fun _ _ ⟨h1, _, h2⟩ => ⟨_, h1, Lib.hid rfl, h2⟩
end Go.Proofs.YtfacckjfoajijaaGreat
