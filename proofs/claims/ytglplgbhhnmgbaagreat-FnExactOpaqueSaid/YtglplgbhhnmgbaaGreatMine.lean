/- What a call owns: rows and boxes, all of them new since a world, no two in one block. No condition. -/
import Derived.Test.YtglplgbhhnmgbaaGreatRow
namespace Go.Proofs.YtglplgbhhnmgbaaGreat
open Go.RowKit Go.Deep
set_option linter.unusedSimpArgs false
set_option linter.unusedVariables false

/-- A thing in memory: a row behind a slice, or a block that is known whole. -/
inductive Res where
  | row (e : TypeId) (size : Nat) (A : Option Addr) (n c : Nat) (xs : List Value)
  | box (g : Nat) (t : TypeId) (cs : Array Value)
def Res.block : Res → Option Nat
  | .row _ _ A n c _ => (Value.slice A n c).ownBlock
  | .box g _ _ => some g
def Res.at_ (w : World) (b : Nat) : Res → Prop
  | .row e size A n c xs => w.ownsRow b e size (.slice A n c) n xs
  | .box g t cs => b ≤ g ∧ Bx w g t cs
def Res.far (r s : Res) : Prop := ∀ g, r.block = some g → s.block = some g → False
theorem Res.far_symm {r s : Res} (h : r.far s) : s.far r := fun g a b => h g b a
theorem Res.at_lt {w : World} {b : Nat} : ∀ {r : Res}, r.at_ w b → ∀ g, r.block = some g → b ≤ g ∧ g < w.heap.size
  | .row .., h, g, hg => World.ownsRow.lt h g hg
  | .box _ _ _, h, k, hk => by injection hk with hk; subst hk; exact ⟨h.1, h.2.lt⟩
theorem Res.at_chg {w w' : World} {S : Nat → Prop} {b : Nat} : ∀ {r : Res}, r.at_ w b → Chg S w w' → (∀ g, r.block = some g → ¬ S g) → r.at_ w' b
  | .row .., h, k, hd => own_chg h k hd
  | .box _ _ _, h, k, hd => ⟨h.1, h.2.chg k (hd _ rfl)⟩
theorem Res.at_base {w : World} {b b' : Nat} (hb : b' ≤ b) : ∀ {r : Res}, r.at_ w b → r.at_ w b'
  | .row .., h => own_base h hb
  | .box _ _ _, h => ⟨Nat.le_trans hb h.1, h.2⟩

/-- Since the world b nothing of what was there has changed; these things are there, new since then, each in a block of its own. -/
structure Mine (b w : World) (rs : List Res) : Prop where
  ext : Ext b w
  all : ∀ r ∈ rs, r.at_ w b.heap.size
  far : rs.Pairwise Res.far

section
variable {b w w' : World} {rs rs' : List Res} {r r' : Res} {S : Nat → Prop} {i : Nat}
theorem Mine.refl (w : World) : Mine w w [] := ⟨Ext.refl' w, by simp, List.Pairwise.nil⟩
theorem Mine.of (h : Ext b w) : Mine b w [] := ⟨h, by simp, List.Pairwise.nil⟩
theorem Mine.sub (h : Mine b w rs) (k : rs'.Sublist rs) : Mine b w rs' := ⟨h.ext, fun r hr => h.all r (k.subset hr), h.far.sublist k⟩
theorem Mine.perm (h : Mine b w rs) (k : rs.Perm rs') : Mine b w rs' := ⟨h.ext, fun r hr => h.all r (k.symm.subset hr), h.far.perm k fun {_ _} q => Res.far_symm q⟩
theorem Mine.on (h : Mine b w rs) (k : Ext w w') : Mine b w' rs := ⟨h.ext.tr k, fun r hr => Res.at_chg (h.all r hr) (k.chg fun _ => False) fun _ _ q => q, h.far⟩
theorem Mine.al (h : Mine b w rs) (o : Obj) : Mine b (w.alloc o) rs := h.on ((Ext.refl' w).al o)
theorem Mine.dr (h : Mine b w rs) : Mine b w.drew rs := h.on (Ext.refl' w).dr
theorem Mine.drN (h : Mine b w rs) (n : Nat) : Mine b (w.drewN n) rs := h.on ((Ext.refl' w).drN n)
theorem Mine.size (h : Mine b w rs) : b.heap.size ≤ w.heap.size := h.ext.size
/-- One thing more, all of it new. -/
theorem Mine.add (h : Mine b w rs) (k : Ext w w') (hr : r.at_ w' w.heap.size) : Mine b w' (r :: rs) := by
  have h' := h.on k
  refine ⟨h'.ext, fun s hs => ?_, List.pairwise_cons.2 ⟨fun s hs g hg hg' => ?_, h'.far⟩⟩
  · rcases List.mem_cons.1 hs with e | e
    · subst e; exact Res.at_base h.size hr
    · exact h'.all s e
  · have h1 := Res.at_lt hr g hg
    have h2 := Res.at_lt (h.all s hs) g hg'
    omega
theorem Mine.box (h : Mine b w rs) (t : TypeId) (cs : Array Value) : Mine b (w.alloc (.cells cs t)) (.box w.heap.size t cs :: rs) :=
  h.add ((Ext.refl' w).al _) ⟨Nat.le_refl _, Bx.new' _ _ _ rfl⟩
/-- What a call has made stands beside what was there. -/
theorem Mine.call (h : Mine b w rs) (k : Mine w w' rs') : Mine b w' (rs' ++ rs) := by
  have h' := h.on k.ext
  refine ⟨h'.ext, fun s hs => ?_, List.pairwise_append.2 ⟨k.far, h'.far, fun r hr s hs g hg hg' => ?_⟩⟩
  · rcases List.mem_append.1 hs with e | e
    · exact Res.at_base h.size (k.all s e)
    · exact h'.all s e
  · have h1 := Res.at_lt (k.all r hr) g hg
    have h2 := Res.at_lt (h.all s hs) g hg'
    omega
theorem Mine.own (h : Mine b w rs) {e : TypeId} {size n c : Nat} {A : Option Addr} {xs : List Value} (hk : w'.ownsRow w.heap.size e size (.slice A n c) n xs) (k : Ext w w') : Mine b w' (.row e size A n c xs :: rs) :=
  h.add k hk
theorem Mine.far_of (h : Mine b w rs) {i j : Nat} {r s : Res} (hi : rs[i]? = some r) (hj : rs[j]? = some s) (hij : i ≠ j) : r.far s := by
  obtain ⟨i1, i2⟩ := List.getElem?_eq_some_iff.1 hi
  obtain ⟨j1, j2⟩ := List.getElem?_eq_some_iff.1 hj
  have hp := List.pairwise_iff_getElem.1 h.far
  by_cases e : i < j
  · have := hp i j i1 j1 e; rw [i2, j2] at this; exact this
  · have := hp j i j1 i1 (by omega); rw [i2, j2] at this; exact Res.far_symm this
/-- One thing changes. -/
theorem Mine.swap (h : Mine b w rs) (hi : rs[i]? = some r) (k : Chg S w w') (hS : ∀ g, S g → r.block = some g) (hr : r'.at_ w' b.heap.size) (hb : ∀ g, r'.block = some g → r.block = some g ∨ w.heap.size ≤ g) : Mine b w' (rs.set i r') := by
  obtain ⟨i1, i2⟩ := List.getElem?_eq_some_iff.1 hi
  have hlt := Res.at_lt (h.all r (List.mem_of_getElem? hi))
  have hkeep : ∀ (j : Nat) (s : Res), rs[j]? = some s → i ≠ j → s.at_ w' b.heap.size := fun j s hj hij => Res.at_chg (h.all s (List.mem_of_getElem? hj)) k fun g hg hs => h.far_of hi hj hij g (hS g hs) hg
  refine ⟨k.ext h.ext fun g hg => (hlt g (hS g hg)).1, fun s hs => ?_, ?_⟩
  · obtain ⟨j, hj⟩ := List.mem_iff_getElem?.1 hs
    rw [List.getElem?_set] at hj
    by_cases e : i = j
    · rw [if_pos e, if_pos i1] at hj; injection hj with hj; subst hj; exact hr
    · rw [if_neg e] at hj; exact hkeep j s hj e
  · rw [List.pairwise_iff_getElem]
    intro p q hp hq hpq
    rw [List.length_set] at hp hq
    have hgp : rs[p]? = some rs[p] := List.getElem?_eq_getElem hp
    have hgq : rs[q]? = some rs[q] := List.getElem?_eq_getElem hq
    rw [List.getElem_set, List.getElem_set]
    by_cases e1 : i = p
    · rw [if_pos e1, if_neg (by omega)]
      intro g hg hg'
      have h2 := Res.at_lt (h.all _ (List.mem_of_getElem? hgq)) g hg'
      rcases hb g hg with q1 | q1
      · exact h.far_of hi hgq (by omega) g q1 hg'
      · omega
    · by_cases e2 : i = q
      · rw [if_neg e1, if_pos e2]
        intro g hg hg'
        have h2 := Res.at_lt (h.all _ (List.mem_of_getElem? hgp)) g hg
        rcases hb g hg' with q1 | q1
        · exact h.far_of hi hgp (by omega) g q1 hg
        · omega
      · rw [if_neg e1, if_neg e2]
        exact h.far_of hgp hgq (by omega)
variable {e t : TypeId} {size n c g j : Nat} {A : Option Addr} {xs : List Value} {cs : Array Value}
theorem Mine.row_at (h : Mine b w rs) (i : Nat) (hi : rs[i]? = some (.row e size A n c xs)) : w.ownsRow b.heap.size e size (.slice A n c) n xs := h.all _ (List.mem_of_getElem? hi)
theorem Mine.box_at (h : Mine b w rs) (i : Nat) (hi : rs[i]? = some (.box g t cs)) : Bx w g t cs := (h.all _ (List.mem_of_getElem? hi)).2
theorem Mine.box_le (h : Mine b w rs) (i : Nat) (hi : rs[i]? = some (.box g t cs)) : b.heap.size ≤ g := (h.all _ (List.mem_of_getElem? hi)).1
theorem Mine.row_sl (h : Mine b w rs) (i : Nat) (hi : rs[i]? = some (.row e size A n c xs)) : Sl w (fun _ => True) size A n xs := ownSl (h.row_at i hi)
/-- A cell of a row is written. -/
theorem Mine.put (h : Mine b w rs) (i : Nat) (hi : rs[i]? = some (.row e size (some ⟨g, 0, none⟩) n c xs)) (j : Nat) (u : Value) : Mine b (w.setCell ⟨g, j, none⟩ u) (rs.set i (.row e size (some ⟨g, 0, none⟩) n c (xs.set j u))) :=
  h.swap hi ((Chg.refl (fun k => k = g) w).sc (p := ⟨g, j, none⟩) rfl u) (fun k hk => by rw [hk]; rfl) ((h.row_at i hi).stored j u).1 (fun k hk => .inl hk)
/-- A cell of a box is written. -/
theorem Mine.set (h : Mine b w rs) (i : Nat) (hi : rs[i]? = some (.box g t cs)) (j : Nat) (u : Value) : Mine b (w.setCell ⟨g, j, none⟩ u) (rs.set i (.box g t (cs.setIfInBounds j u))) :=
  h.swap hi ((Chg.refl (fun k => k = g) w).sc (p := ⟨g, j, none⟩) rfl u) (fun k hk => by rw [hk]; rfl) ⟨h.box_le i hi, (h.box_at i hi).set_ j u⟩ (fun k hk => .inl hk)
/-- A box is written whole. -/
theorem Mine.setRow (h : Mine b w rs) (i : Nat) (hi : rs[i]? = some (.box g t cs)) (cs' : Array Value) : Mine b (w.setRow g cs') (rs.set i (.box g t cs')) :=
  h.swap hi ((Chg.refl (fun k => k = g) w).row rfl cs') (fun k hk => by rw [hk]; rfl) ⟨h.box_le i hi, (h.box_at i hi).row cs'⟩ (fun k hk => .inl hk)
/-- A row is cut. -/
theorem own_cut (h : w.ownsRow i e size (.slice A n c) n xs) {m : Nat} (hm : m ≤ n) : w.ownsRow i e size (.slice A m c) m (xs.take (m * size)) := by
  have hms : m * size ≤ n * size := Nat.mul_le_mul_right _ hm
  refine ⟨by rw [List.length_take, h.1]; omega, ?_⟩
  rcases h.2 with ⟨hv, h0⟩ | ⟨g, cap, cur, hv, hb, hh, hnc, hcm, hcs, htake⟩
  · injection hv with h1 h2 h3
    subst h1 h2 h3
    obtain rfl : m = 0 := by omega
    exact .inl ⟨rfl, rfl⟩
  · injection hv with h1 h2 h3
    subst h1 h3
    exact .inr ⟨g, c, cur, rfl, hb, hh, by omega, hcm, hcs, by rw [← htake, List.take_take]; congr 1; omega⟩
theorem Mine.swap0 (h : Mine b w rs) (hi : rs[i]? = some r) (hr : r'.at_ w b.heap.size) (hb : r'.block = r.block) : Mine b w (rs.set i r') :=
  h.swap hi (Chg.refl (fun _ => False) w) (fun _ q => q.elim) hr fun g hg => .inl (by rw [← hb]; exact hg)
theorem Mine.cut (h : Mine b w rs) (i : Nat) (hi : rs[i]? = some (.row e size A n c xs)) {m : Nat} (hm : m ≤ n) : Mine b w (rs.set i (.row e size A m c (xs.take (m * size)))) :=
  h.swap0 hi (own_cut (h.row_at i hi) hm) (by cases A <;> rfl)
theorem Mine.addr (h : Mine b w rs) (i : Nat) (hi : rs[i]? = some (.row e size A n c xs)) (hn : 0 < n) : ∃ g, A = some ⟨g, 0, none⟩ := by
  rcases (h.row_at i hi).2 with ⟨_, h0⟩ | ⟨g, cap, cur, hv, _⟩
  · omega
  · injection hv with h1; exact ⟨g, h1⟩
theorem Mine.cap (h : Mine b w rs) (i : Nat) (hi : rs[i]? = some (.row e size A n c xs)) : n ≤ c := own_cap (h.row_at i hi)
theorem Mine.len (h : Mine b w rs) (i : Nat) (hi : rs[i]? = some (.row e size A n c xs)) : xs.length = n * size := (h.row_at i hi).1
theorem Mine.len1 (h : Mine b w rs) (i : Nat) (hi : rs[i]? = some (.row e 1 A n c xs)) : xs.length = n := by have := h.len i hi; omega
end

/-! ### The walk's rules -/
theorem run_storeVar_cell {P : Program} (w : World) (b o : Nat) (ty : TypeId) (v : Value) (ht : w.there b o 1) (hi : (P.info? ty).map (·.size) = some 1) (h1 : v.oneCell' = true) :
    (storeVar ty ⟨b, o, none⟩ v).run P w = .ok () (w.setCell ⟨b, o, none⟩ v) := by
  have hc : v.cells = #[v] := by cases v <;> first | rfl | cases h1
  have := run_storeCells_cells (P := P) b o [v] 0 w (fun j hj => by simpa using (ht j (by simpa using hj)).1) (fun j hj => by simpa using (ht j (by simpa using hj)).2)
    (fun u hu => by simp at hu; subst hu; exact h1)
  cases hq : P.info? ty with
  | none => simp [hq] at hi
  | some i =>
    have hs : i.size = 1 := by simpa [hq] using hi
    simp only [Nat.add_zero] at this
    simp [storeVar, sizeOf, typeInfo, hq, hc, hs, this, World.setCells]
theorem there_row {w : World} {b g : Nat} {e : TypeId} {size n c : Nat} {xs : List Value} (h : w.ownsRow b e size (.slice (some ⟨g, 0, none⟩) n c) n xs) {p m : Nat} (hp : p + m ≤ n * size) : w.there g p m := fun j hj => by
  refine ⟨?_, h.frozenAt _⟩
  rw [h.cellAt _ (by omega), List.getElem?_eq_getElem (by rw [h.1]; omega)]
  rfl
theorem there_box {w : World} {g : Nat} {t : TypeId} {cs : Array Value} (h : Bx w g t cs) {p m : Nat} (hp : p + m ≤ cs.size) : w.there g p m := fun j hj => by
  refine ⟨?_, h.frozen _⟩
  rw [h.cell, Array.getElem?_eq_getElem (by omega)]
  rfl
theorem Bx.cells {w : World} {g : Nat} {t : TypeId} : ∀ (vs cs : List Value) (o : Nat), Bx w g t cs.toArray → Bx (w.setCells g o vs) g t (putAt cs o vs).toArray
  | [], _, _, h => h
  | v :: r, cs, o, h => by
    have h1 := h.set_ o v
    rw [List.setIfInBounds_toArray] at h1
    have h2 := Bx.cells r (cs.set o v) (o + 1) h1
    exact h2
section
variable {P : Program} {ops : Array Oper} {rest : List Oper} {o : Oper} {a : Act} {Q : Exit → Act → World → Prop} {b w : World} {rs : List Res}
/-- A cell of a row is written. -/
theorem Mine.wp_put (M : Mine b w rs) (hgd : o.guard = none) (ty : TypeId) (x y : Operand) (ho : o.op = .store ty x y) (hd : o.dst = none) (i : Nat) (j : Nat) {g : Nat} {e : TypeId} {size n c : Nat} {xs : List Value} (hi : rs[i]? = some (.row e size (some ⟨g, 0, none⟩) n c xs))
    (hx : a.eval x = .pointer (some ⟨g, j, none⟩)) (u : Value) (hy : a.eval y = u) (hj : j < n * size) (h1 : u.oneCell' = true) (hu : (P.info? ty).map (·.size) = some 1)
    (h : ∀ w', Mine b w' (rs.set i (.row e size (some ⟨g, 0, none⟩) n c (xs.set j u))) → wpList P ops Q rest a w') : wpList P ops Q (o :: rest) a w :=
  wpList_plain hgd fun _ hK => by
    unfold Oper.wp execOp
    simp only [ho, hx, hy, Instr.storeAt, Instr.sureAddr, Sem.run_bind, Sem.run_pure, Result.andThen_ok, run_storeVar_cell w g j ty u (there_row (M.row_at i hi) (by omega)) hu h1]
    have := h _ (M.put i hi j u)
    exact hK _ _ (by rw [hd]; exact this)
/-- A struct in a row is written. -/
theorem Mine.wp_puts (M : Mine b w rs) (hgd : o.guard = none) (ty : TypeId) (x y : Operand) (ho : o.op = .store ty x y) (hd : o.dst = none) (i : Nat) (j : Nat) {g : Nat} {e : TypeId} {size n c : Nat} {xs : List Value} (hi : rs[i]? = some (.row e size (some ⟨g, 0, none⟩) n c xs))
    (hx : a.eval x = .pointer (some ⟨g, j, none⟩)) (vs : List Value) (hy : a.eval y = .agg vs.toArray) (hj : j + vs.length ≤ n * size) (h1 : ∀ u ∈ vs, u.oneCell' = true) (hu : (P.info? ty).map (·.size) = some vs.length)
    (h : ∀ w', Mine b w' (rs.set i (.row e size (some ⟨g, 0, none⟩) n c (putAt xs j vs))) → wpList P ops Q rest a w') : wpList P ops Q (o :: rest) a w := by
  refine wpList_store_mid hgd ty x y ho g j vs.toArray hx hy (there_row (M.row_at i hi) (by simpa using hj)) (by simpa using hu) (all_oneCell_toArray h1) ?_
  rw [hd]
  refine h _ ?_
  have k : Chg (fun k => k = g) w (w.setCells g j vs.toArray.toList) := Chg.cells (S := fun k => k = g) rfl _ _ (Chg.refl _ w)
  refine M.swap hi k (fun k hk => by rw [hk]; rfl) ?_ (fun k hk => .inl hk)
  show World.ownsRow _ _ _ _ _ _ _
  exact own_cells vs j (M.row_at i hi)
/-- A cell of a box is written. -/
theorem Mine.wp_set (M : Mine b w rs) (hgd : o.guard = none) (ty : TypeId) (x y : Operand) (ho : o.op = .store ty x y) (hd : o.dst = none) (i : Nat) (j : Nat) {g : Nat} {t : TypeId} {cs : Array Value} (hi : rs[i]? = some (.box g t cs))
    (hx : a.eval x = .pointer (some ⟨g, j, none⟩)) (u : Value) (hy : a.eval y = u) (hj : j < cs.size) (h1 : u.oneCell' = true) (hu : (P.info? ty).map (·.size) = some 1)
    (h : ∀ w', Mine b w' (rs.set i (.box g t (cs.setIfInBounds j u))) → wpList P ops Q rest a w') : wpList P ops Q (o :: rest) a w :=
  wpList_plain hgd fun _ hK => by
    unfold Oper.wp execOp
    simp only [ho, hx, hy, Instr.storeAt, Instr.sureAddr, Sem.run_bind, Sem.run_pure, Result.andThen_ok, run_storeVar_cell w g j ty u (there_box (M.box_at i hi) (by omega)) hu h1]
    have := h _ (M.set i hi j u)
    exact hK _ _ (by rw [hd]; exact this)
/-- A struct in a box is written. -/
theorem Mine.wp_sets (M : Mine b w rs) (hgd : o.guard = none) (ty : TypeId) (x y : Operand) (ho : o.op = .store ty x y) (hd : o.dst = none) (i : Nat) (j : Nat) {g : Nat} {t : TypeId} {cs : List Value} (hi : rs[i]? = some (.box g t cs.toArray))
    (hx : a.eval x = .pointer (some ⟨g, j, none⟩)) (vs : List Value) (hy : a.eval y = .agg vs.toArray) (hj : j + vs.length ≤ cs.length) (h1 : ∀ u ∈ vs, u.oneCell' = true) (hu : (P.info? ty).map (·.size) = some vs.length)
    (h : ∀ w', Mine b w' (rs.set i (.box g t (putAt cs j vs).toArray)) → wpList P ops Q rest a w') : wpList P ops Q (o :: rest) a w := by
  refine wpList_store_mid hgd ty x y ho g j vs.toArray hx hy (there_box (M.box_at i hi) (by simpa using hj)) (by simpa using hu) (all_oneCell_toArray h1) ?_
  rw [hd]
  refine h _ ?_
  have k : Chg (fun k => k = g) w (w.setCells g j vs.toArray.toList) := Chg.cells (S := fun k => k = g) rfl _ _ (Chg.refl _ w)
  exact M.swap hi k (fun k hk => by rw [hk]; rfl) ⟨M.box_le i hi, Bx.cells vs cs j (M.box_at i hi)⟩ (fun k hk => .inl hk)
/-- append(s, x): a row grows. -/
theorem Mine.wp_push (M : Mine b w rs) (hgd : o.guard = none) (s x : Operand) (t : TypeId) (ho : o.op = .call { callee := .builtin .append, args := #[s, x], argTypes := #[t, t] })
    (e : TypeId) (z : Value) (size bytes : Nat) (ht : P.underlying t = some (.slice e)) (hf : (P.info? e).map (fun i => (i.zero, i.size, i.bytes)) = some (some z, size, bytes)) (hzs : z.cells.size = size) (hsz : 0 < size)
    (i : Nat) {A : Option Addr} {n c : Nat} {xs : List Value} (hi : rs[i]? = some (.row e size A n c xs)) (hs : a.eval s = .slice A n c)
    (news : List Value) (gn : Nat) (hgn : gn = w.heap.size) (hx : a.eval x = .slice (some ⟨gn, 0, none⟩) 1 1) (hl : news.length = size) (h1 : ∀ u ∈ news, u.oneCell' = true)
    (hbytes : (n + 1) * bytes ≤ 140737488355328) (h63 : n + 1 ≤ maxLen)
    (h : ∀ A' c' w', Mine b w' (rs.set i (.row e size A' (n + 1) c' (xs ++ news))) → wpList P ops Q rest (a.put o.dst (.slice A' (n + 1) c')) w') :
    wpList P ops Q (o :: rest) a (w.alloc (.cells news.toArray e)) := by
  refine YtglplgbhhnmgbaaGreat.wp_push hgd s x t ho b.heap.size e z size bytes ht hf hzs hsz A n c xs hs (M.row_at i hi) news gn hgn hx hl h1 hbytes h63 M.size ?_
  intro A' c' w' hown hchg hat
  refine h A' c' w' (M.swap hi hchg (fun g hg => hg) hown fun g hg => ?_)
  rcases hat with q | ⟨g', q1, q2⟩
  · exact .inl (by show (Value.slice A n c).ownBlock = some g; rw [← q]; exact hg)
  · right
    have hg' : (Value.slice A' (n + 1) c').ownBlock = some g := hg
    rw [q1] at hg'
    injection hg' with hg'
    omega
end
end Go.Proofs.YtglplgbhhnmgbaaGreat
