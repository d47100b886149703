/- slices.DeleteFunc on versions: what lies at or under a stamp goes. No condition but lengths. -/
import Derived.Test.YtnhkjgnfjphllaaVersState
import Derived.Test.YtnhkjgnfjphllaaFlat
namespace Go.Proofs.Ytnhkjgnfjphllaa
open Go.RowKit Go.Deep
set_option linter.unusedSimpArgs false
set_option linter.unusedVariables false

def Ver.stays (N : Int) (_ : Nat) (x : Ver) : Prop := ¬ x.stamp ≤ N
def keepN (N : Int) (l : List Ver) : List Ver := l.filter fun x => !decide (x.stamp ≤ N)
theorem keep_all {N : Int} {l : List Ver} {k : Nat} (h : AllTo (Ver.stays N) l k) : keepN N (l.take k) = l.take k := by
  unfold keepN
  rw [List.filter_eq_self]
  intro x hx
  obtain ⟨j, hj⟩ := List.mem_iff_getElem?.1 hx
  rw [List.getElem?_take] at hj
  split at hj
  · rename_i hjk
    have := h j hjk x hj
    unfold Ver.stays at this
    simpa using this
  · cases hj
theorem keep_yes {N : Int} {l : List Ver} {k : Nat} {x : Ver} (hx : l[k]? = some x) (h : ¬ x.stamp ≤ N) : keepN N (l.take (k + 1)) = keepN N (l.take k) ++ [x] := by
  unfold keepN
  rw [List.take_add_one, hx]
  simp [List.filter_append, h]
theorem keep_no {N : Int} {l : List Ver} {k : Nat} {x : Ver} (hx : l[k]? = some x) (h : x.stamp ≤ N) : keepN N (l.take (k + 1)) = keepN N (l.take k) := by
  unfold keepN
  rw [List.take_add_one, hx]
  simp [List.filter_append, h]
theorem keep_le (N : Int) (l : List Ver) : (keepN N l).length ≤ l.length := List.length_filter_le _ _
theorem set_next {F l : List Ver} {x : Ver} (h : F.length < l.length) : (F ++ l.drop F.length).set F.length x = (F ++ [x]) ++ l.drop (F ++ [x]).length := by
  rw [List.set_append_right _ _ (Nat.le_refl _), Nat.sub_self, List.drop_eq_getElem_cons h, List.set_cons_zero]
  simp
theorem mix_get {F l : List Ver} {j : Nat} (h : F.length ≤ j) : (F ++ l.drop F.length)[j]? = l[j]? := by
  rw [List.getElem?_append_right h, List.getElem?_drop]
  congr 1
  omega
theorem take_putAt : ∀ (row cs : List Value) (p q : Nat), q ≤ p → (putAt cs p row).take q = cs.take q
  | [], _, _, _, _ => rfl
  | v :: r, cs, p, q, h => by
    rw [putAt, take_putAt r _ _ _ (by omega)]
    apply List.ext_getElem?
    intro i
    rw [List.getElem?_take, List.getElem?_take]
    split
    · rw [List.getElem?_set_ne (by omega)]
    · rfl

set_option maxHeartbeats 1000000 in
theorem delC_any (g0 g1 g2 N : Int) (gn : Nat) (w : World) (hn : w.cell? ⟨gn, 0, none⟩ = some (.int .i64 N)) (hlt : gn < w.heap.size) :
    Calls Try.prog 65 #[.agg #[.int .i64 g0, .int .i64 g1, .int .i64 g2], .pointer (some ⟨gn, 0, none⟩)] w fun e w' => e = .returned (.bool (decide (g1 ≤ N))) ∧ Ext w w' := by
  go_enter Try.func65, Try.ntmps65
  go_wp2
  go_ret
  exact ⟨rfl, (Ext.refl' _).al _⟩

set_option maxHeartbeats 2000000 in
theorem idxDel_any (A : Option Addr) (n c : Nat) (l : List Ver) (w : World) (S : Nat → Prop) (hs : Sl w S 3 A n (l.flatMap Ver.cells)) (hm : n ≤ 1048576) (N : Int) (gn : Nat) (hn : w.cell? ⟨gn, 0, none⟩ = some (.int .i64 N)) (hg : gn < w.heap.size) :
    Calls Try.prog 82 #[.slice A n c, .func (.func 65) #[] #[.pointer (some ⟨gn, 0, none⟩)]] w fun e w' => ∃ i : Int, e = .returned (.int .i64 i) ∧ ((i = -1 ∧ AllTo (Ver.stays N) l l.length) ∨ ∃ (k : Nat) (x : Ver), i = k ∧ k < n ∧ AllTo (Ver.stays N) l k ∧ l[k]? = some x ∧ x.stamp ≤ N) ∧ Ext w w' := by
  have H := Lib.hid (hs.flen Ver.cells_length (by omega))
  have HN := Lib.hid hn
  clear hn
  go_enter Try.func82, Try.ntmps82
  go_wp2
  go_loopw [8] (fun i wr => ∃ k : Nat, k ≤ n ∧ i = .int .i64 k ∧ AllTo (Ver.stays N) l k ∧ Ext w wr) (fun i _ => n - (intOf i).toNat)
  case atStart => exact ⟨0, Nat.zero_le _, rfl, AllTo.zero _ _, Ext.refl' _⟩
  case round =>
    obtain ⟨k, hk, rfl, hup, hx⟩ := hrel
    have HU := Lib.hid hup
    have HX := Lib.hid hx
    clear hup
    by_cases hlt : k < n
    · obtain ⟨b, o, rfl⟩ := hs.addr (by omega)
      obtain ⟨s, hsk, -, hc⟩ := (hs.ext hx).flat_cell Ver.cells_length (by omega) hlt
      obtain ⟨g0, g1, g2⟩ := s
      have k0 := hc 0 (by omega)
      have k1 := hc 1 (by omega)
      have k2 := hc 2 (by omega)
      simp only [Ver.cells, List.getElem?_cons_zero, List.getElem?_cons_succ, Nat.add_zero] at k0 k1 k2
      have HSK := Lib.hid hsk
      clear hsk hc hx
      go_wp2_with fail
      refine (delC_any _ _ _ N gn _ (by have h := HX.out.cell (p := ⟨gn, 0, none⟩) hg; rw [h]; exact HN.out) (Nat.lt_of_lt_of_le hg HX.out.size)).mono ?_
      rintro e w2 ⟨rfl, x2⟩
      have X2 := Lib.hid (HX.out.tr x2)
      clear x2
      by_cases h0 : g1 ≤ N
      rotate_left
      · have b0 : decide (g1 ≤ N) = false := decide_eq_false h0
        have H0 := Lib.hid h0
        clear h0
        go_wp2
        go_roundw
        case rel => exact ⟨k + 1, by omega, by go_num, HU.out.succ HSK.out (by show ¬ g1 ≤ N; have := H0.out; omega), X2.out⟩
        case measure => simp [intOf]; omega
      · have b0 : decide (g1 ≤ N) = true := decide_eq_true h0
        have H0 := Lib.hid h0
        clear h0
        go_wp2
        go_ret
        exact ⟨k, rfl, .inr ⟨k, _, rfl, hlt, HU.out, HSK.out, H0.out⟩, X2.out⟩
    · clear hx
      go_wp2
      go_ret
      have e : k = l.length := by rw [H.out]; omega
      exact ⟨-1, rfl, .inl ⟨rfl, by rw [← e]; exact HU.out⟩, HX.out⟩

theorem Mine.wp_clear {P : Program} {ops : Array Oper} {rest : List Oper} {o : Oper} {a : Act} {Q : Exit → Act → World → Prop} {b w : World} {rs : List Res} (M : Mine b w rs) (hgd : o.guard = none) (x : Operand) (t : TypeId) (ho : o.op = .call { callee := .builtin .clear, args := #[x], argTypes := #[t] }) (hd : o.dst = none)
    (e : TypeId) (z : Value) (size : Nat) (ht : P.underlying t = some (.slice e)) (hv : ∀ w, (zeroValue e).run P w = .ok z w) (hzs : z.cells.size = size) (h1 : ∀ u ∈ z.cells.toList, u.oneCell' = true) (hsz : 0 < size)
    (i : Nat) {g n c : Nat} {xs : List Value} (hi : rs[i]? = some (.row e size (some ⟨g, 0, none⟩) n c xs)) (p q c' : Nat) (hx : a.eval x = .slice (some ⟨g, p * size, none⟩) q c') (hpq : p + q ≤ n)
    (h : ∀ w' xs', xs'.take (p * size) = xs.take (p * size) → Mine b w' (rs.set i (.row e size (some ⟨g, 0, none⟩) n c xs')) → wpList P ops Q rest a w') : wpList P ops Q (o :: rest) a w :=
  wpList_plain hgd fun K hK => by
    have hmul : (p + q) * size ≤ n * size := Nat.mul_le_mul_right _ hpq
    rw [Nat.add_mul] at hmul
    obtain ⟨w', xs', hrun, hp, M'⟩ : ∃ w' xs', (Builtin.clear_ #[t] o.type #[.slice (some ⟨g, p * size, none⟩) q c']).run P w = .ok (.tuple #[]) w' ∧ xs'.take (p * size) = xs.take (p * size) ∧ Mine b w' (rs.set i (.row e size (some ⟨g, 0, none⟩) n c xs')) := by
      rcases Nat.eq_zero_or_pos q with h0 | h0
      · subst h0
        refine ⟨w, xs, by simp [Builtin.clear_, run_underlying ht], rfl, ?_⟩
        have e : rs.set i (.row e size (some ⟨g, 0, none⟩) n c xs) = rs := by
          apply List.ext_getElem?
          intro j
          rw [List.getElem?_set]
          split
          · rename_i hij
            subst hij
            rw [if_pos (List.getElem?_eq_some_iff.1 hi).1, hi]
          · rfl
        rw [e]; exact M
      · have hzc : (Builtin.zeroCells z.cells q).toList.length = q * size := by simp [size_zeroCells, hzs]
        have hst := run_storeCells_cells (P := P) g (p * size) (Builtin.zeroCells z.cells q).toList 0 w (fun j hj => by rw [Nat.add_zero]; exact (there_row (M.row_at i hi) (p := p * size) (m := q * size) hmul j (by omega)).1)
          (fun j hj => by rw [Nat.add_zero]; exact (there_row (M.row_at i hi) (p := p * size) (m := q * size) hmul j (by omega)).2)
          (fun u hu => by
            simp only [Builtin.zeroCells, Array.toList_map, List.mem_map] at hu
            obtain ⟨k, _, rfl⟩ := hu
            have hlt : k % z.cells.size < z.cells.size := Nat.mod_lt _ (by omega)
            rw [getElem!_pos z.cells _ hlt]
            exact h1 _ (by simp))
        simp only [Nat.add_zero] at hst
        have hq : q ≠ 0 := by omega
        obtain ⟨q', rfl⟩ : ∃ q', q = q' + 1 := ⟨q - 1, by omega⟩
        generalize hL : (Builtin.zeroCells z.cells (q' + 1)).toList = L at hst hzc
        refine ⟨w.setCells g (p * size) L, putAt xs (p * size) L, by simp [Builtin.clear_, run_underlying ht, hv w, hL, hst], take_putAt _ _ _ _ (Nat.le_refl _), ?_⟩
        have k : Chg (fun k => k = g) w (w.setCells g (p * size) L) := Chg.cells (S := fun k => k = g) rfl _ _ (Chg.refl _ w)
        refine M.swap hi k (fun k hk => by rw [hk]; rfl) ?_ (fun k hk => .inl hk)
        show World.ownsRow _ _ _ _ _ _ _
        exact own_cells _ _ (M.row_at i hi)
    have e2 : a.put o.dst (.tuple #[]) = a := by rw [hd]; rfl
    have hfin := hK _ _ (h w' xs' hp M')
    rw [← e2] at hfin
    unfold Oper.wp execOp
    simp [ho, resolve, invoke, builtin, hx, hrun, Result.andThen]
    exact hfin
end Go.Proofs.Ytnhkjgnfjphllaa
