/- A region that draws its order: its first n operations in any order (those that read are taken first, those that make memory are run in every order that may be), the others behind them one after the other. No condition. -/
import Derived.Test.YtglplgbhhnmgbaaGreatMineQ
import Derived.Deep.RegionHeld
namespace Go.Proofs.YtglplgbhhnmgbaaGreat
open Go Go.RowKit Go.Deep
set_option linter.unusedSimpArgs false
set_option linter.unusedVariables false

section
variable {P : Program} {ops : Array Oper} {md : Region.Mode} {Q : Exit → Act → World → Prop} {S : World → Prop} {n : Nat} {L : Array Bool → Act → World → Prop}
/-- The first n in whatever order, S behind each. -/
def wpHead (P : Program) (md : Region.Mode) (ops : Array Oper) (Q : Exit → Act → World → Prop) (S : World → Prop) (n : Nat) (L : Array Bool → Act → World → Prop) : Nat → Array Bool → Act → World → Prop
  | 0, listed, a, w => L listed a w
  | f + 1, listed, a, w => Region.ready md ops listed ≠ [] ∧ ∀ i ∈ Region.ready md ops listed, i < n ∧ wpOp P ops Q i (fun a' w' => S w' ∧ wpHead P md ops Q S n L f (listed.setIfInBounds i true) a' w') a w
theorem wpAny_of_wpHead {g : Nat} (hL : ∀ listed a w, L listed a w → wpAny P md ops Q g listed a w) :
    ∀ (f : Nat) (listed : Array Bool) (a : Act) (w : World), wpHead P md ops Q S n L f listed a w → wpAny P md ops Q (f + g) listed a w
  | 0, _, _, _, h => by rw [Nat.zero_add]; exact hL _ _ _ h
  | f + 1, _, _, _, h => by
    rw [show f + 1 + g = (f + g) + 1 by omega]
    exact ⟨fun h0 => absurd h0 h.1, fun i hi => wpOp_mono (fun a' w' h' => wpAny_of_wpHead hL f _ a' w' h'.2) (h.2 i hi).2⟩
theorem wpHead_first {i : Nat} {oi : Oper} {v : Value} (hi : ops[i]? = some oi) (hsel : ∀ (j : Nat) (o : Oper) cs b, ops[j]? = some o → o.op ≠ .select cs b)
    (hs : Region.sinkB md ops n = true) (hc : Region.chainB md ops n = true) (hn : n < ops.size) (hin : i < n)
    (hdone : ∀ listed a w, L listed a w → ∀ j ∈ Region.ready md ops listed, n ≤ j) (hQ : ∀ c a w, Q (.panic c) (a.put oi.dst v) w → Q (.panic c) a w) :
    ∀ (f : Nat) (listed : Array Bool) (a : Act) (w : World), HeadInv md ops n listed →
      (∀ j oj, ops[j]? = some oj → j ≠ i → listed.getD j true = false → (∀ e ∈ oj.after, Region.binds md e = true → e.on ≠ i) → oi.apart ops oj = true) →
      i ∈ Region.ready md ops listed → YieldsIf P ops S oi v a → S w →
      wpHead P md ops Q S n L f (listed.setIfInBounds i true) (a.put oi.dst v) w → wpHead P md ops Q S n L (f + 1) listed a w := by
  intro f
  induction f with
  | zero =>
    intro listed a w inv _ hr hy hS H
    have hun := (mem_ready.1 hr).1
    refine ⟨fun h => (by rw [h] at hr; cases hr), fun j hj => ?_⟩
    have hjn : j < n := by
      rcases Nat.lt_or_ge j n with h | h
      · exact h
      · exact absurd hj (tail_waits hs hc hn inv _ i rfl hin hun j h)
    refine ⟨hjn, ?_⟩
    by_cases hji : j = i
    · subst hji; exact hy.wpOp hi hS ⟨hS, H⟩
    · have := hdone _ _ _ H j (ready_mono hj hji)
      omega
  | succ f ih =>
    intro listed a w inv hfree hr hy hS H
    have hun := (mem_ready.1 hr).1
    refine ⟨fun h => (by rw [h] at hr; cases hr), fun j hj => ?_⟩
    have hjn : j < n := by
      rcases Nat.lt_or_ge j n with h | h
      · exact h
      · exact absurd hj (tail_waits hs hc hn inv _ i rfl hin hun j h)
    refine ⟨hjn, ?_⟩
    by_cases hji : j = i
    · subst hji; exact hy.wpOp hi hS ⟨hS, H⟩
    · have h1 := (H.2 j (ready_mono hj hji)).2
      obtain ⟨hjun, oj, hoj, hall⟩ := mem_ready.1 hj
      have hnot : ∀ e ∈ oj.after, Region.binds md e = true → e.on ≠ i := fun e he hb heq => by
        have h1 := hall e he hb
        rw [heq, getD_both hun] at h1
        cases h1
      have h2 := wpOp_putIf hoj (hfree j oj hoj hji hjun hnot) (fun cs b => hsel i oi cs b hi) (fun cs b => hsel j oj cs b hoj) hQ hy h1
      have hfree' : ∀ k ok, ops[k]? = some ok → k ≠ i → (listed.setIfInBounds j true).getD k true = false →
          (∀ e ∈ ok.after, Region.binds md e = true → e.on ≠ i) → oi.apart ops ok = true := fun k ok hk hki hun hno => by
        refine hfree k ok hk hki ?_ hno
        by_cases hjk : j = k
        · subst hjk; exact hjun
        · rw [getD_set_ne true hjk] at hun; exact hun
      refine wpOp_mono (fun a' w' h3 => ⟨h3.2.1, ih (listed.setIfInBounds j true) a' w' (inv.set hj hjn) hfree' (ready_mono hr (Ne.symm hji)) h3.1 h3.2.1 ?_⟩) h2
      rw [Array.setIfInBounds_comm _ _ hji]
      exact h3.2.2
/-- What waits for the first n, and the order behind them. -/
def seqL (P : Program) (Q : Exit → Act → World → Prop) (md : Region.Mode) (l : List Oper) (n : Nat) (listed : Array Bool) (a : Act) (w : World) : Prop := Region.seqB md l.toArray (l.toArray.size - n) n listed = true ∧ wpList P l.toArray Q (l.drop n) a w
def headB (md : Region.Mode) (l : List Oper) (n : Nat) : Bool := Region.noSelect l.toArray && decide (n < l.toArray.size) && Region.sinkB md l.toArray n && Region.chainB md l.toArray n
/-- The walk's state: at this world. -/
def HQ (P : Program) (md : Region.Mode) (l : List Oper) (Q : Exit → Act → World → Prop) (S : World → Prop) (n f : Nat) (listed : Array Bool) (a : Act) (w : World) : Prop :=
  HeadInv md l.toArray n listed → S w → wpHead P md l.toArray Q S n (seqL P Q md l n) f listed a w
/-- An operation that reads: one value in every world of the class. -/
def Reads (P : Program) (o : Oper) (a : Act) (S : World → Prop) (K : Act → Prop) : Prop := ∃ v, (∀ w, S w → (execOp a.eval o).run P w = .ok (.value v) w) ∧ K (a.put o.dst v)
variable {l : List Oper} {f : Nat} {listed : Array Bool} {a : Act} {w : World}
theorem HQ.take {i : Nat} {oi : Oper} (hi : l.toArray[i]? = some oi) (hB : headB md l n = true) (hf : Region.free md l.toArray listed i = true) (hr : (Region.ready md l.toArray listed).contains i = true) (hin : i < n) (hg : oi.guard = none)
    (hQ : ∀ v c a w, Q (.panic c) (a.put oi.dst v) w → Q (.panic c) a w) (h : ∀ K : Act → Prop, (∀ a', HQ P md l Q S n f (listed.setIfInBounds i true) a' w → K a') → Reads P oi a S K) : HQ P md l Q S n (f + 1) listed a w := by
  intro inv hS
  simp only [headB, Bool.and_eq_true, decide_eq_true_eq] at hB
  obtain ⟨⟨⟨hsel, hn⟩, hs⟩, hc⟩ := hB
  obtain ⟨v, hv, hK⟩ := h (fun a' => HQ P md l Q S n f (listed.setIfInBounds i true) a' w) fun _ h => h
  have hr' : i ∈ Region.ready md l.toArray listed := by simpa using hr
  exact wpHead_first hi (Region.noSelect_spec hsel) hs hc hn hin (fun listed' a' w' hL => seqB_ready hL.1) (fun c a w => hQ v c a w) f listed a w inv (Region.free_spec hi hf) hr' (.inl ⟨wanted_none hg _, hv⟩) hS (hK (inv.set hr' hin) hS)
def AllG (P : Program) (md : Region.Mode) (l : List Oper) (Q : Exit → Act → World → Prop) (S : World → Prop) (n f : Nat) (listed : Array Bool) (a : Act) (w : World) (rs : List Nat) : Prop :=
  ∀ i ∈ rs, i < n ∧ wpOp P l.toArray Q i (fun a' w' => S w' ∧ HQ P md l Q S n f (listed.setIfInBounds i true) a' w') a w
theorem AllG.nil : AllG P md l Q S n f listed a w [] := fun _ h => by cases h
theorem AllG.cons {i : Nat} {o : Oper} {rs : List Nat} (ho : l.toArray[i]? = some o) (hin : i < n)
    (h : ∀ K' : Act → World → Prop, Shut (∀ a w, S w → HQ P md l Q S n f (listed.setIfInBounds i true) a w → K' a w) → if Region.wanted o (yielded l.toArray a.tmps) = true then Oper.wp P o a w K' Q else K' (a.put o.dst undef) w)
    (hs : AllG P md l Q S n f listed a w rs) : AllG P md l Q S n f listed a w (i :: rs) := fun j hj => by
  rcases List.mem_cons.1 hj with rfl | hj
  · exact ⟨hin, wpOp_step ho (fun K' hK => h K' (fun a w hS hW => hK a w ⟨hS, hW⟩))⟩
  · exact hs j hj
theorem HQ.noisy {rs : List Nat} (hr : Region.ready md l.toArray listed = rs) (hne : rs ≠ []) (h : AllG P md l Q S n f listed a w rs) : HQ P md l Q S n (f + 1) listed a w := by
  intro inv hS
  refine ⟨fun h0 => hne (hr ▸ h0), fun i hi => ?_⟩
  have hi' := hi
  rw [hr] at hi'
  have h1 := h i hi'
  exact ⟨h1.1, wpOp_mono (fun a' w' h2 => ⟨h2.1, h2.2 (inv.set hi h1.1) h2.1⟩) h1.2⟩
theorem HQ.end_ (hB : Region.seqB md l.toArray (l.toArray.size - n) n listed = true) (h : wpList P l.toArray Q (l.drop n) a w) : HQ P md l Q S n 0 listed a w := fun _ _ => ⟨hB, h⟩
theorem region_head {id : Nat} (n : Nat) (S : World → Prop) (hm : P.follows .mixedOrders = true) (hB : headB .any l n = true) (hS : S w.drew)
    (h : HQ P .any l Q S n n (Array.replicate l.toArray.size false) a w.drew) : (Code.region id l.toArray true).wp P Q a w := by
  have hB' := hB
  simp only [headB, Bool.and_eq_true, decide_eq_true_eq] at hB'
  obtain ⟨⟨⟨hsel, hn⟩, hs⟩, hc⟩ := hB'
  have hn' : n < l.length := by simpa using hn
  have hdl : (l.drop n).length = l.toArray.size - n := by simp
  have inv0 : HeadInv .any l.toArray n (Array.replicate l.toArray.size false) :=
    ⟨by simp, fun j oj _ hl => (by rw [getD_replicate_false] at hl; cases hl), fun t _ ht => getD_in (by simpa using ht) (getD_replicate_false _ _)⟩
  refine wp_region_any hm ?_
  have := wpAny_of_wpHead (P := P) (md := .any) (ops := l.toArray) (Q := Q) (S := S) (n := n) (L := seqL P Q .any l n) (g := l.toArray.size - n) (fun listed a' w' hL => by
    have := wpAny_of_seq (md := .any) (Q' := Q) (l.drop n) n listed a' w' (fun j => by simp [List.getElem?_drop]) (by rw [hdl]; exact hL.1) hL.2
    rwa [hdl] at this) _ _ _ _ (h inv0 hS)
  rw [show n + (l.toArray.size - n) = l.toArray.size by omega] at this
  exact this
end
section
variable {P : Program} {o : Oper} {a : Act} {b w : World} {rs : List Res}
theorem Mine.region_head {Q : Exit → Act → World → Prop} {l : List Oper} {id : Nat} (M : Mine b w rs) (n : Nat) (hm : P.follows .mixedOrders = true) (hB : headB .any l n = true)
    (h : ∀ w', Mine b w' rs → HQ P .any l Q (fun w' => Mine b w' rs) n n (Array.replicate l.toArray.size false) a w') : (Code.region id l.toArray true).wp P Q a w := YtglplgbhhnmgbaaGreat.region_head n _ hm hB M.dr (h _ M.dr)
theorem Mine.rd_get {K : Act → Prop} (ty : TypeId) (x : Operand) (ho : o.op = .load ty x) (i j : Nat) {g : Nat} {t : TypeId} {cs : Array Value} (hi : rs[i]? = some (.box g t cs)) (hx : a.eval x = .pointer (some ⟨g, j, none⟩)) (v : Value) (hv : cs[j]? = some v)
    (d : TypeDesc) (hu : P.underlying ty = some d) (hd : d.isRow = false) (h : K (a.put o.dst v)) : Reads P o a (fun w' => Mine b w' rs) K :=
  ⟨v, fun w' M => by
    unfold execOp
    simp only [ho, hx, Instr.loadAt, Instr.sureAddr, Sem.run_bind, Sem.run_pure, Result.andThen_ok, run_loadVar_cell w' _ ty v d (((M.box_at i hi).cell j).trans hv) hu hd], h⟩
theorem Mine.rd_getr {K : Act → Prop} (ty : TypeId) (x : Operand) (ho : o.op = .load ty x) (i j : Nat) {g : Nat} {e : TypeId} {size n c : Nat} {xs : List Value} (hi : rs[i]? = some (.row e size (some ⟨g, 0, none⟩) n c xs)) (hx : a.eval x = .pointer (some ⟨g, j, none⟩)) (v : Value) (hv : xs[j]? = some v)
    (d : TypeDesc) (hu : P.underlying ty = some d) (hd : d.isRow = false) (h : K (a.put o.dst v)) : Reads P o a (fun w' => Mine b w' rs) K :=
  ⟨v, fun w' M => by
    unfold execOp
    simp only [ho, hx, Instr.loadAt, Instr.sureAddr, Sem.run_bind, Sem.run_pure, Result.andThen_ok, run_loadVar_cell w' _ ty v d (((M.row_at i hi).cellAt j (by have h1 := (M.row_at i hi).1; have h2 := (List.getElem?_eq_some_iff.1 hv).1; omega)).trans hv) hu hd], h⟩
theorem Mine.rd_gets {K : Act → Prop} (ty : TypeId) (x : Operand) (ho : o.op = .load ty x) (i j m : Nat) {g : Nat} {t : TypeId} {cs : List Value} (hi : rs[i]? = some (.box g t cs.toArray)) (hx : a.eval x = .pointer (some ⟨g, j, none⟩)) (hm : j + m ≤ cs.length)
    (d : TypeDesc) (hu : P.underlying ty = some d) (hd : d.isRow = true) (hf : (P.info? ty).map (·.size) = some m) (h : K (a.put o.dst (.agg ((cs.drop j).take m).toArray))) : Reads P o a (fun w' => Mine b w' rs) K :=
  ⟨.agg ((cs.drop j).take m).toArray, fun w' M => by
    have hrun := run_loadVar_mid (P := P) w' g j ty ((cs.drop j).take m) d (fun k v hv => by
      rw [(M.box_at i hi).cell]
      rw [List.getElem?_take] at hv
      split at hv
      · rw [List.getElem?_drop] at hv; simpa using hv
      · cases hv) hu hd (by rw [hf, List.length_take, List.length_drop]; congr 1; omega)
    unfold execOp
    simp only [ho, hx, Instr.loadAt, Instr.sureAddr, Sem.run_bind, Sem.run_pure, Result.andThen_ok, hrun], h⟩
theorem Mine.rd_getrs {K : Act → Prop} (ty : TypeId) (x : Operand) (ho : o.op = .load ty x) (i j : Nat) {g : Nat} {e : TypeId} {size n c : Nat} {xs : List Value} (hi : rs[i]? = some (.row e size (some ⟨g, 0, none⟩) n c xs)) (hx : a.eval x = .pointer (some ⟨g, j, none⟩)) (vs : List Value) (hv : ∀ k, k < vs.length → xs[j + k]? = vs[k]?)
    (d : TypeDesc) (hu : P.underlying ty = some d) (hd : d.isRow = true) (hf : (P.info? ty).map (·.size) = some vs.length) (h : K (a.put o.dst (.agg vs.toArray))) : Reads P o a (fun w' => Mine b w' rs) K :=
  ⟨.agg vs.toArray, fun w' M => by
    have hrun := run_loadVar_mid (P := P) w' g j ty vs d (fun k v hk => by
      have hkl := (List.getElem?_eq_some_iff.1 hk).1
      have h1 := (hv k hkl).trans hk
      rw [(M.row_at i hi).cellAt _ (by have h2 := (M.row_at i hi).1; have h3 := (List.getElem?_eq_some_iff.1 h1).1; omega)]
      exact h1) hu hd hf
    unfold execOp
    simp only [ho, hx, Instr.loadAt, Instr.sureAddr, Sem.run_bind, Sem.run_pure, Result.andThen_ok, hrun], h⟩
theorem rd_from {C : World → Prop} {K : Act → Prop} (t : TypeId) (x y : Operand) (ho : o.op = .slice t x (some y) none none) {g n c k : Nat} {e : TypeId} (size : Nat) (hx : a.eval x = .slice (some ⟨g, 0, none⟩) n c) (hy : a.eval y = .int .i64 (k : Int)) (ht : P.underlying t = some (.slice e)) (hf : (P.info? e).map (·.size) = some size) (hk : k ≤ n)
    (h : ∀ D, Hid (D = if c = k then ⟨g, 0, none⟩ else ⟨g, k * size, none⟩) → K (a.put o.dst (.slice (some D) (n - k) (c - k)))) : Reads P o a C K :=
  ⟨_, fun w' _ => by
    have ht' : P.underlying t = some (.slice (P.elem t)) := by simp [Program.elem, ht]
    unfold execOp
    simp only [ho, Option.map, hx, hy, Sem.run_bind, Sem.run_pure, run_sliceAt_slice (w := w') t (.slice (some ⟨g, 0, none⟩) n c) (some (.int .i64 (k : Int))) none none ht', run_from (w := w') t e size ht hf g n c k hk, Result.andThen], h _ rfl⟩
end
end Go.Proofs.YtglplgbhhnmgbaaGreat
