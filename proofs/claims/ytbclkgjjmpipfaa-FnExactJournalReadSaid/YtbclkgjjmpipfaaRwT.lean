/- ReadWrote: plain words; append in a region that draws. No condition. -/
import Derived.Test.YtbclkgjjmpipfaaRv
import Derived.Test.YtbclkgjjmpipfaaShowW
import Derived.Deep.RegionLaw
namespace Go.Proofs.Ytbclkgjjmpipfaa
open Go.RowKit Go.Deep

/-- m numbers one behind the other, from place p on; and the place behind them. -/
noncomputable def vars (L : List UInt8) (p : Nat) : Nat → Option (List Int × Nat)
  | 0 => some ([], p)
  | m + 1 => match vars L p m with
    | none => none
    | some (xs, q) => if rvK (L.drop q) = 0 then none else some (xs ++ [((rvN (L.drop q) : Nat) : Int)], q + rvK (L.drop q))
theorem vars_fail {L : List UInt8} {p m q : Nat} {xs : List Int} (h : vars L p m = some (xs, q)) (hk : rvK (L.drop q) = 0) : vars L p (m + 1) = none := by
  simp [vars, h, hk]
theorem vars_step {L : List UInt8} {p m q : Nat} {xs : List Int} (h : vars L p m = some (xs, q)) (hk : ¬ rvK (L.drop q) = 0) : vars L p (m + 1) = some (xs ++ [((rvN (L.drop q) : Nat) : Int)], q + rvK (L.drop q)) := by
  simp [vars, h, hk]
theorem vars_none {L : List UInt8} {p m : Nat} (h : vars L p m = none) : ∀ n, m ≤ n → vars L p n = none := by
  intro n
  induction n with
  | zero => intro hm; rw [show (0 : Nat) = m by omega]; exact h
  | succ n ih =>
    intro hm
    by_cases e : m = n + 1
    · rw [← e]; exact h
    · simp [vars, ih (by omega)]
theorem rvK_le (l : List UInt8) : rvK l ≤ l.length := by
  by_cases hg : ∃ k, Good l k
  · obtain ⟨k, g⟩ := hg
    rw [rvK_good g]; exact g.2.2.1
  · rw [rvK_none fun k hk => hg ⟨k, hk⟩]; omega
theorem rvK_le7 (l : List UInt8) : rvK l ≤ 7 := by
  by_cases hg : ∃ k, Good l k
  · obtain ⟨k, g⟩ := hg
    rw [rvK_good g]; exact g.2.1
  · rw [rvK_none fun k hk => hg ⟨k, hk⟩]; omega
theorem rvN_le (l : List UInt8) : rvN l ≤ 562949953421311 := by
  by_cases hg : ∃ k, Good l k
  · obtain ⟨k, g⟩ := hg
    rw [rvN_good g]; exact num_lt7 g.2.1
  · rw [rvN_none fun k hk => hg ⟨k, hk⟩]; omega
theorem ext_drop (s : ByteArray) (q : Nat) : (s.extract q s.size).data.toList = s.data.toList.drop q := by
  rw [ByteArray.data_extract]
  simp only [Array.toList_extract, List.extract]
  rw [List.take_of_length_le]
  simp
theorem ext_size_le (s : ByteArray) (q : Nat) : (s.extract q s.size).size ≤ s.size := by rw [ByteArray.size_extract]; omega

/-- Rows one behind the other. -/
noncomputable def rowsAt (L : List UInt8) (p : Nat) : Nat → Option (List Row × Nat)
  | 0 => some ([], p)
  | m + 1 => match rowsAt L p m with
    | none => none
    | some (rs, q) => match vars L q 2 with
      | none => none
      | some (xs, q') => some (rs ++ [⟨xs.getD 0 0, xs.getD 1 0⟩], q')
theorem rowsAt_none {L : List UInt8} {p m : Nat} (h : rowsAt L p m = none) : ∀ n, m ≤ n → rowsAt L p n = none := by
  intro n
  induction n with
  | zero => intro hm; rw [show (0 : Nat) = m by omega]; exact h
  | succ n ih =>
    intro hm
    by_cases e : m = n + 1
    · rw [← e]; exact h
    · simp [rowsAt, ih (by omega)]
theorem rowsAt_fail {L : List UInt8} {p m q : Nat} {rs : List Row} (h : rowsAt L p m = some (rs, q)) (hv : vars L q 2 = none) : rowsAt L p (m + 1) = none := by
  simp [rowsAt, h, hv]
theorem rowsAt_step {L : List UInt8} {p m q q' : Nat} {rs : List Row} {xs : List Int} (h : rowsAt L p m = some (rs, q)) (hv : vars L q 2 = some (xs, q')) : rowsAt L p (m + 1) = some (rs ++ [⟨xs.getD 0 0, xs.getD 1 0⟩], q') := by
  simp [rowsAt, h, hv]
/-- What a string says, if it is what such a value is shown as. -/
noncomputable def readW (s : ByteArray) : Option (Int × Int × List Row) :=
  match vars s.data.toList 0 3 with
  | none => none
  | some (xs, p) => if xs.getD 2 0 ≤ 8 then
      (match rowsAt s.data.toList p (xs.getD 2 0).toNat with
      | none => none
      | some (rs, _) => if dec (showOf (xs.getD 0 0) (xs.getD 1 0) rs = s) = true then some (xs.getD 0 0, xs.getD 1 0, rs) else none)
    else none
noncomputable def rwA (s : ByteArray) : Int := ((readW s).map fun x => x.1).getD 0
noncomputable def rwB (s : ByteArray) : Int := ((readW s).map fun x => x.2.1).getD 0
noncomputable def rwR (s : ByteArray) : List Row := ((readW s).map fun x => x.2.2).getD []
noncomputable def rwOk (s : ByteArray) : Bool := (readW s).isSome
theorem rw_no {s : ByteArray} (h : readW s = none) : rwA s = 0 ∧ rwB s = 0 ∧ rwR s = [] ∧ rwOk s = false := by
  unfold rwA rwB rwR rwOk
  rw [h]
  exact ⟨rfl, rfl, rfl, rfl⟩
theorem rw_yes {s : ByteArray} {a b : Int} {rs : List Row} (h : readW s = some (a, b, rs)) : rwA s = a ∧ rwB s = b ∧ rwR s = rs ∧ rwOk s = true := by
  unfold rwA rwB rwR rwOk
  rw [h]
  exact ⟨rfl, rfl, rfl, rfl⟩
theorem read_no1 {s : ByteArray} (h : vars s.data.toList 0 3 = none) : readW s = none := by simp [readW, h]
theorem read_no2 {s : ByteArray} {xs : List Int} {p : Nat} (h : vars s.data.toList 0 3 = some (xs, p)) (h8 : ¬ xs.getD 2 0 ≤ 8) : readW s = none := by
  unfold readW
  rw [h]
  simp only
  rw [if_neg h8]
theorem read_no3 {s : ByteArray} {xs : List Int} {p : Nat} (h : vars s.data.toList 0 3 = some (xs, p)) (hr : rowsAt s.data.toList p (xs.getD 2 0).toNat = none) : readW s = none := by
  unfold readW
  rw [h]
  simp only [hr]
  split <;> rfl
theorem read_no4 {s : ByteArray} {xs : List Int} {p q : Nat} {rs : List Row} (h : vars s.data.toList 0 3 = some (xs, p)) (hr : rowsAt s.data.toList p (xs.getD 2 0).toNat = some (rs, q)) (hs : ¬ showOf (xs.getD 0 0) (xs.getD 1 0) rs = s) : readW s = none := by
  unfold readW
  rw [h]
  simp only [hr, dec_no hs]
  split <;> rfl
theorem read_yes {s : ByteArray} {xs : List Int} {p q : Nat} {rs : List Row} (h : vars s.data.toList 0 3 = some (xs, p)) (h8 : xs.getD 2 0 ≤ 8) (hr : rowsAt s.data.toList p (xs.getD 2 0).toNat = some (rs, q)) (hs : showOf (xs.getD 0 0) (xs.getD 1 0) rs = s) : readW s = some (xs.getD 0 0, xs.getD 1 0, rs) := by
  unfold readW
  rw [h]
  simp only [hr, dec_yes hs]
  rw [if_pos h8]
  rfl
theorem rowsAt_len {L : List UInt8} {p : Nat} : ∀ {m q : Nat} {rs : List Row}, rowsAt L p m = some (rs, q) → rs.length = m := by
  intro m
  induction m with
  | zero => intro q rs h; simp [rowsAt] at h; rw [h.1]; rfl
  | succ m ih =>
    intro q rs h
    unfold rowsAt at h
    split at h
    · simp at h
    · rename_i rs0 q0 h0
      split at h
      · simp at h
      · injection h with h
        injection h with h1 h2
        rw [← h1, List.length_append, ih h0]
        rfl

/-- append(s, x) in a region that draws: one element more onto a row of the call's own. -/
theorem step_push {P : Program} {ops : Array Oper} {o : Oper} {a : Act} {K : Act → World → Prop} {Q : Exit → Act → World → Prop} {E : Prop} {w : World} (hgd : o.guard = none) (s x : Operand) (t : TypeId)
    (ho : o.op = .call { callee := .builtin .append, args := #[s, x], argTypes := #[t, t] })
    (base : Nat) (e : TypeId) (z : Value) (size bytes : Nat) (ht : P.underlying t = some (.slice e)) (hi : (P.info? e).map (fun i => (i.zero, i.size, i.bytes)) = some (some z, size, bytes)) (hzs : z.cells.size = size) (hsz : 0 < size)
    (A : Option Addr) (n c : Nat) (xs : List Value) (hs : a.eval s = .slice A n c) (hown : w.ownsRow base e size (.slice A n c) n xs)
    (news : List Value) (gn : Nat) (hgn : gn = w.heap.size) (hx : a.eval x = .slice (some ⟨gn, 0, none⟩) 1 1) (hl : news.length = size) (h1 : ∀ u ∈ news, u.oneCell' = true)
    (hbytes : (n + 1) * bytes ≤ 140737488355328) (h63 : n + 1 ≤ maxLen) (hbase : base ≤ w.heap.size)
    (h : ∀ A' c' w', w'.ownsRow base e size (.slice A' (n + 1) c') (n + 1) (xs ++ news) → Chg (fun k => (Value.slice A n c).ownBlock = some k) w w' →
      K (a.put o.dst (.slice A' (n + 1) c')) w') :
    if Region.wanted o (yielded ops a.tmps) = true then Oper.wp P o a (w.alloc (.cells news.toArray e)) K Q else E := by
  have hw : Region.wanted o (yielded ops a.tmps) = true := by simp [Region.wanted, hgd]
  rw [if_pos hw]
  subst hgn
  obtain ⟨i0, hi, hz0, hz1, hz2⟩ := info_parts hi
  obtain ⟨v', w', hrun, h2, h3, _, _⟩ := run_append_own_at (P := P) (w.alloc (.cells news.toArray e)) base t o.type e i0 z size bytes ht hi hz0 hz1 hz2 hzs hsz (.slice A n c) n xs (hown.alloc _) ⟨w.heap.size, 0, none⟩ 1 1 news (by omega) (by
    intro j u hu
    have hadd : (⟨w.heap.size, 0, none⟩ : Addr).add j = ⟨w.heap.size, j, none⟩ := by unfold Addr.add; split <;> simp_all
    rw [hadd, cell_of_row _ w.heap.size j news.toArray e (0, 0) (heap_alloc_new w _)]
    simpa using hu) h1 h63 hbytes (by simp; omega)
  obtain ⟨A', c', rfl⟩ : ∃ A' c', v' = .slice A' (n + 1) c' := by
    rcases h2.2 with ⟨_, h0⟩ | ⟨g, cap, cur, hv, _⟩
    · omega
    · exact ⟨_, _, hv⟩
  unfold Oper.wp execOp
  simp only [ho, resolve, invoke, builtin, Sem.run_bind, Sem.run_pure, Result.andThen_ok, List.map_toArray, List.map_cons, List.map_nil, hs, hx, hrun]
  exact h A' c' w' h2 (((Chg.refl _ w).al _).grown h3 (fun k hk => .inl hk))
end Go.Proofs.Ytbclkgjjmpipfaa
